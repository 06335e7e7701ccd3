/-
  Contracts of the reference's Words, Frag, SpineAt, Global and Of; both sides' answers as functions.
-/
import Derived.Test.YtdlcfgpmjhcgdaaArea
import Derived.IntWalk
namespace Go.Proofs.Ytdlcfgpmjhcgdaa
open Go.RowKit

def fragI (c : Cn) (l : List Sh) (i k : Int) : Int × Int := if checkI c l = 0 ∧ 0 ≤ i ∧ i < c.frags ∧ 0 ≤ k ∧ k < 8 then (8 * i + k, 0) else (0, 1)
def spineI (c : Cn) (l : List Sh) (s k : Int) : Int × Int := if checkI c l = 0 ∧ (s = 0 ∨ s = 1) ∧ 0 ≤ k ∧ k < c.spine then (8 * c.frags + s * c.spine + k, 0) else (0, 1)
def globI (c : Cn) (l : List Sh) (g : Int) : Int × Int := if checkI c l = 0 ∧ 0 ≤ g ∧ g < c.globals then (8 * c.frags + 2 * c.spine + g, 0) else (0, 1)

section
variable (c : Cn) (v : Value) (l : List Sh) (w : World) (hl : ShsR w w.heap.size v l)
include hl
theorem frag_tot (i k : Int) : Calls Try.prog 10 #[cnV c v, .int .i64 i, .int .i64 k] w fun e w' => e = .returned (.tuple #[.int .i64 (fragI c l i k).1, .int .i64 (fragI c l i k).2]) ∧ Pure w w' := by
  by_cases h : checkI c l = 0 ∧ 0 ≤ i ∧ i < c.frags ∧ 0 ≤ k ∧ k < 8
  · rw [fragI, if_pos h]
    exact frag_in c v l i k w hl h.1 h.2.1 h.2.2.1 h.2.2.2.1 h.2.2.2.2
  · rw [fragI, if_neg h]
    exact frag_out c v l i k w hl (by omega)
theorem spine_tot (s k : Int) : Calls Try.prog 14 #[cnV c v, .int .i64 s, .int .i64 k] w fun e w' => e = .returned (.tuple #[.int .i64 (spineI c l s k).1, .int .i64 (spineI c l s k).2]) ∧ Pure w w' := by
  by_cases h : checkI c l = 0 ∧ (s = 0 ∨ s = 1) ∧ 0 ≤ k ∧ k < c.spine
  · rw [spineI, if_pos h]
    exact spine_in c v l s k w hl h.1 h.2.1 h.2.2.1 h.2.2.2
  · rw [spineI, if_neg h]
    exact spine_out c v l s k w hl (by omega)
theorem glob_tot (g : Int) : Calls Try.prog 16 #[cnV c v, .int .i64 g] w fun e w' => e = .returned (.tuple #[.int .i64 (globI c l g).1, .int .i64 (globI c l g).2]) ∧ Pure w w' := by
  by_cases h : checkI c l = 0 ∧ 0 ≤ g ∧ g < c.globals
  · rw [globI, if_pos h]
    exact global_in c v l g w hl h.1 h.2.1 h.2.2
  · rw [globI, if_neg h]
    exact global_out c v l g w hl (by omega)
end

theorem refwords_any (c : Cn) (v : Value) (l : List Sh) (w : World) (hl : ShsR w w.heap.size v l) :
    Calls Try.prog 19 #[cnV c v] w fun e w' => e = .returned (.int .i64 (z0 c l + z1 c l + z1 c l + z3 c l)) ∧ Pure w w' := by
  have HL := Lib.hid (fun (w' : World) (hp : Pure w w') => hl.pure hp)
  obtain ⟨A, cc, rfl⟩ : ∃ A cc, v = .slice A l.length cc := by
    obtain ⟨⟨A, cc, rfl, _⟩, _⟩ := hl
    exact ⟨A, cc, rfl⟩
  clear hl
  by_cases hk : checkI c l = 0
  · have HK := Lib.hid hk
    have HZ := Lib.hid (z_ok hk)
    obtain ⟨b0, b1, b2, b3, b4, b5⟩ := check_bd hk
    clear hk
    go_enter Try.func19, Try.ntmps19
    go_wp2_with fail
    have hr := Row.new w c (.slice A l.length cc)
    generalize w.alloc _ = W at hr ⊢
    generalize w.heap.size = X at hr ⊢
    have R := Lib.hid hr
    clear hr
    refine (refcheck_any c _ l _ (HL.out _ R.out.2.2)).mono ?_
    rw [HK.out]
    rintro e w1 ⟨rfl, hp1⟩
    have R1 := Lib.hid (R.out.keep hp1)
    clear hp1
    obtain ⟨c0, c1, c2, c3, c4, c5, c6, c7, c8, _⟩ := R1.out.cells
    go_wp2_with fail
    go_ret
    exact ⟨ret_i (by have := HZ.out; omega), R1.out.2.2⟩
  · have HZ := Lib.hid (z_no hk)
    have hk' : (checkI c l != 0) = true := by simpa using hk
    clear hk
    go_enter Try.func19, Try.ntmps19
    go_wp2_with fail
    have hr := Row.new w c (.slice A l.length cc)
    generalize w.alloc _ = W at hr ⊢
    generalize w.heap.size = X at hr ⊢
    have R := Lib.hid hr
    clear hr
    refine (refcheck_any c _ l _ (HL.out _ R.out.2.2)).mono ?_
    rintro e w1 ⟨rfl, hp1⟩
    have R1 := Lib.hid (R.out.keep hp1)
    clear hp1
    obtain ⟨c0, c1, c2, c3, c4, c5, c6, c7, c8, _⟩ := R1.out.cells
    go_wp2_with fail
    go_ret
    exact ⟨ret_i (by have := HZ.out; omega), R1.out.2.2⟩

theorem reffrag_tot (c : Cn) (v : Value) (l : List Sh) (i k : Int) (w : World) (hl : ShsR w w.heap.size v l) :
    Calls Try.prog 13 #[cnV c v, .int .i64 i, .int .i64 k] w fun e w' => e = .returned (.tuple #[.int .i64 (fragI c l i k).1, .int .i64 (fragI c l i k).2]) ∧ Pure w w' := by
  have HL := Lib.hid (fun (w' : World) (hp : Pure w w') => hl.pure hp)
  obtain ⟨A, cc, rfl⟩ : ∃ A cc, v = .slice A l.length cc := by
    obtain ⟨⟨A, cc, rfl, _⟩, _⟩ := hl
    exact ⟨A, cc, rfl⟩
  clear hl
  by_cases hk : checkI c l = 0
  · have HK := Lib.hid hk
    obtain ⟨b0, b1, b2, b3, b4, b5⟩ := check_bd hk
    by_cases h0 : 0 ≤ i ∧ i < c.frags
    case' neg =>
      have e0 : fragI c l i k = (0, 1) := if_neg (fun h => h0 ⟨h.2.1, h.2.2.1⟩)
      have g0 : withinB i 0 (c.frags - 1) = false := by simp only [withinB, Bool.and_eq_false_iff, decide_eq_false_iff_not]; omega
      rw [e0]
      clear e0 hk h0
      go_enter Try.func13, Try.ntmps13
      go_wp2_with fail
      have hr := Row.new w c (.slice A l.length cc)
      generalize w.alloc _ = W at hr ⊢
      generalize w.heap.size = X at hr ⊢
      have R := Lib.hid hr
      clear hr
      refine (refcheck_any c _ l _ (HL.out _ R.out.2.2)).mono ?_
      rw [HK.out]
      rintro e w1 ⟨rfl, hp1⟩
      have R1 := Lib.hid (R.out.keep hp1)
      clear hp1
      obtain ⟨c0, c1, c2, c3, c4, c5, c6, c7, c8, _⟩ := R1.out.cells
      go_wp2_with fail
      refine (in_any i 0 (c.frags - 1) _).mono ?_
      rw [g0]
      rintro e w2 ⟨rfl, rfl⟩
      go_wp2_with fail
      go_ret2
      exact ⟨rfl, R1.out.2.2⟩
    case pos =>
      have G0 := Lib.hid (show withinB i 0 (c.frags - 1) = true from by simp only [withinB, Bool.and_eq_true, decide_eq_true_eq]; omega)
      by_cases h1 : 0 ≤ k ∧ k < 8
      case' neg =>
        have e0 : fragI c l i k = (0, 1) := if_neg (fun h => h1 ⟨h.2.2.2.1, h.2.2.2.2⟩)
        have g1 : withinB k 0 7 = false := by simp only [withinB, Bool.and_eq_false_iff, decide_eq_false_iff_not]; omega
        rw [e0]
        clear e0 hk h1
        go_enter Try.func13, Try.ntmps13
        go_wp2_with fail
        have hr := Row.new w c (.slice A l.length cc)
        generalize w.alloc _ = W at hr ⊢
        generalize w.heap.size = X at hr ⊢
        have R := Lib.hid hr
        clear hr
        refine (refcheck_any c _ l _ (HL.out _ R.out.2.2)).mono ?_
        rw [HK.out]
        rintro e w1 ⟨rfl, hp1⟩
        have R1 := Lib.hid (R.out.keep hp1)
        clear hp1
        obtain ⟨c0, c1, c2, c3, c4, c5, c6, c7, c8, _⟩ := R1.out.cells
        go_wp2_with fail
        refine (in_any i 0 (c.frags - 1) _).mono ?_
        rw [G0.out]
        rintro e w2 ⟨rfl, rfl⟩
        go_wp2_with fail
        refine (in_any k 0 7 _).mono ?_
        rw [g1]
        rintro e w2 ⟨rfl, rfl⟩
        go_wp2_with fail
        go_ret2
        exact ⟨rfl, R1.out.2.2⟩
      case pos =>
        have G1 := Lib.hid (show withinB k 0 7 = true from by simp only [withinB, Bool.and_eq_true, decide_eq_true_eq]; omega)
        have e0 : fragI c l i k = (8 * i + k, 0) := if_pos ⟨hk, h0.1, h0.2, h1.1, h1.2⟩
        rw [e0]
        clear e0 hk
        go_enter Try.func13, Try.ntmps13
        go_wp2_with fail
        have hr := Row.new w c (.slice A l.length cc)
        generalize w.alloc _ = W at hr ⊢
        generalize w.heap.size = X at hr ⊢
        have R := Lib.hid hr
        clear hr
        refine (refcheck_any c _ l _ (HL.out _ R.out.2.2)).mono ?_
        rw [HK.out]
        rintro e w1 ⟨rfl, hp1⟩
        have R1 := Lib.hid (R.out.keep hp1)
        clear hp1
        obtain ⟨c0, c1, c2, c3, c4, c5, c6, c7, c8, _⟩ := R1.out.cells
        go_wp2_with fail
        refine (in_any i 0 (c.frags - 1) _).mono ?_
        rw [G0.out]
        rintro e w2 ⟨rfl, rfl⟩
        go_wp2_with fail
        refine (in_any k 0 7 _).mono ?_
        rw [G1.out]
        rintro e w2 ⟨rfl, rfl⟩
        go_wp2_with fail
        go_ret2
        exact ⟨ret_2 (by omega) rfl, R1.out.2.2⟩
  · have hk' : (checkI c l != 0) = true := by simpa using hk
    have e0 : fragI c l i k = (0, 1) := if_neg (fun h => hk h.1)
    rw [e0]
    clear e0 hk
    go_enter Try.func13, Try.ntmps13
    go_wp2_with fail
    have hr := Row.new w c (.slice A l.length cc)
    generalize w.alloc _ = W at hr ⊢
    generalize w.heap.size = X at hr ⊢
    have R := Lib.hid hr
    clear hr
    refine (refcheck_any c _ l _ (HL.out _ R.out.2.2)).mono ?_
    rintro e w1 ⟨rfl, hp1⟩
    have R1 := Lib.hid (R.out.keep hp1)
    clear hp1
    obtain ⟨c0, c1, c2, c3, c4, c5, c6, c7, c8, _⟩ := R1.out.cells
    go_wp2_with fail
    go_ret2
    exact ⟨rfl, R1.out.2.2⟩

theorem refspine_tot (c : Cn) (v : Value) (l : List Sh) (s k : Int) (w : World) (hl : ShsR w w.heap.size v l) :
    Calls Try.prog 15 #[cnV c v, .int .i64 s, .int .i64 k] w fun e w' => e = .returned (.tuple #[.int .i64 (spineI c l s k).1, .int .i64 (spineI c l s k).2]) ∧ Pure w w' := by
  have HL := Lib.hid (fun (w' : World) (hp : Pure w w') => hl.pure hp)
  obtain ⟨A, cc, rfl⟩ : ∃ A cc, v = .slice A l.length cc := by
    obtain ⟨⟨A, cc, rfl, _⟩, _⟩ := hl
    exact ⟨A, cc, rfl⟩
  clear hl
  by_cases hk : checkI c l = 0
  · have HK := Lib.hid hk
    obtain ⟨b0, b1, b2, b3, b4, b5⟩ := check_bd hk
    by_cases h0 : 0 ≤ s ∧ s ≤ 1
    case' neg =>
      have e0 : spineI c l s k = (0, 1) := if_neg (fun h => h0 (by have := h.2.1; omega))
      have g0 : withinB s 0 1 = false := by simp only [withinB, Bool.and_eq_false_iff, decide_eq_false_iff_not]; omega
      rw [e0]
      clear e0 hk h0
      go_enter Try.func15, Try.ntmps15
      go_wp2_with fail
      have hr := Row.new w c (.slice A l.length cc)
      generalize w.alloc _ = W at hr ⊢
      generalize w.heap.size = X at hr ⊢
      have R := Lib.hid hr
      clear hr
      refine (refcheck_any c _ l _ (HL.out _ R.out.2.2)).mono ?_
      rw [HK.out]
      rintro e w1 ⟨rfl, hp1⟩
      have R1 := Lib.hid (R.out.keep hp1)
      clear hp1
      obtain ⟨c0, c1, c2, c3, c4, c5, c6, c7, c8, _⟩ := R1.out.cells
      go_wp2_with fail
      refine (in_any _ 0 1 _).mono ?_
      rw [g0]
      rintro e w2 ⟨rfl, rfl⟩
      go_wp2_with fail
      go_ret2
      exact ⟨rfl, R1.out.2.2⟩
    case pos =>
      have G0 := Lib.hid (show withinB s 0 1 = true from by simp only [withinB, Bool.and_eq_true, decide_eq_true_eq]; omega)
      by_cases h1 : 0 ≤ k ∧ k < c.spine
      case' neg =>
        have e0 : spineI c l s k = (0, 1) := if_neg (fun h => h1 ⟨h.2.2.1, h.2.2.2⟩)
        have g1 : withinB k 0 (c.spine - 1) = false := by simp only [withinB, Bool.and_eq_false_iff, decide_eq_false_iff_not]; omega
        rw [e0]
        clear e0 hk h1
        go_enter Try.func15, Try.ntmps15
        go_wp2_with fail
        have hr := Row.new w c (.slice A l.length cc)
        generalize w.alloc _ = W at hr ⊢
        generalize w.heap.size = X at hr ⊢
        have R := Lib.hid hr
        clear hr
        refine (refcheck_any c _ l _ (HL.out _ R.out.2.2)).mono ?_
        rw [HK.out]
        rintro e w1 ⟨rfl, hp1⟩
        have R1 := Lib.hid (R.out.keep hp1)
        clear hp1
        obtain ⟨c0, c1, c2, c3, c4, c5, c6, c7, c8, _⟩ := R1.out.cells
        go_wp2_with fail
        refine (in_any _ 0 1 _).mono ?_
        rw [G0.out]
        rintro e w2 ⟨rfl, rfl⟩
        go_wp2_with fail
        refine (in_any k 0 (c.spine - 1) _).mono ?_
        rw [g1]
        rintro e w2 ⟨rfl, rfl⟩
        go_wp2_with fail
        go_ret2
        exact ⟨rfl, R1.out.2.2⟩
      case pos =>
        have G1 := Lib.hid (show withinB k 0 (c.spine - 1) = true from by simp only [withinB, Bool.and_eq_true, decide_eq_true_eq]; omega)
        have e0 : spineI c l s k = (8 * c.frags + s * c.spine + k, 0) := if_pos ⟨hk, by omega, h1.1, h1.2⟩
        rw [e0]
        clear e0 hk
        have hs : s = 0 ∨ s = 1 := by omega
        rcases hs with rfl | rfl
        all_goals
          go_enter Try.func15, Try.ntmps15
          go_wp2_with fail
          have hr := Row.new w c (.slice A l.length cc)
          generalize w.alloc _ = W at hr ⊢
          generalize w.heap.size = X at hr ⊢
          have R := Lib.hid hr
          clear hr
          refine (refcheck_any c _ l _ (HL.out _ R.out.2.2)).mono ?_
          rw [HK.out]
          rintro e w1 ⟨rfl, hp1⟩
          have R1 := Lib.hid (R.out.keep hp1)
          clear hp1
          obtain ⟨c0, c1, c2, c3, c4, c5, c6, c7, c8, _⟩ := R1.out.cells
          go_wp2_with fail
          refine (in_any _ 0 1 _).mono ?_
          rw [G0.out]
          rintro e w2 ⟨rfl, rfl⟩
          go_wp2_with fail
          refine (in_any k 0 (c.spine - 1) _).mono ?_
          rw [G1.out]
          rintro e w2 ⟨rfl, rfl⟩
          go_wp2_with fail
          go_ret2
          exact ⟨ret_2 (by omega) rfl, R1.out.2.2⟩
  · have hk' : (checkI c l != 0) = true := by simpa using hk
    have e0 : spineI c l s k = (0, 1) := if_neg (fun h => hk h.1)
    rw [e0]
    clear e0 hk
    go_enter Try.func15, Try.ntmps15
    go_wp2_with fail
    have hr := Row.new w c (.slice A l.length cc)
    generalize w.alloc _ = W at hr ⊢
    generalize w.heap.size = X at hr ⊢
    have R := Lib.hid hr
    clear hr
    refine (refcheck_any c _ l _ (HL.out _ R.out.2.2)).mono ?_
    rintro e w1 ⟨rfl, hp1⟩
    have R1 := Lib.hid (R.out.keep hp1)
    clear hp1
    obtain ⟨c0, c1, c2, c3, c4, c5, c6, c7, c8, _⟩ := R1.out.cells
    go_wp2_with fail
    go_ret2
    exact ⟨rfl, R1.out.2.2⟩

theorem refglob_tot (c : Cn) (v : Value) (l : List Sh) (g : Int) (w : World) (hl : ShsR w w.heap.size v l) :
    Calls Try.prog 17 #[cnV c v, .int .i64 g] w fun e w' => e = .returned (.tuple #[.int .i64 (globI c l g).1, .int .i64 (globI c l g).2]) ∧ Pure w w' := by
  have HL := Lib.hid (fun (w' : World) (hp : Pure w w') => hl.pure hp)
  obtain ⟨A, cc, rfl⟩ : ∃ A cc, v = .slice A l.length cc := by
    obtain ⟨⟨A, cc, rfl, _⟩, _⟩ := hl
    exact ⟨A, cc, rfl⟩
  clear hl
  by_cases hk : checkI c l = 0
  · have HK := Lib.hid hk
    obtain ⟨b0, b1, b2, b3, b4, b5⟩ := check_bd hk
    by_cases h0 : 0 ≤ g ∧ g < c.globals
    case' neg =>
      have e0 : globI c l g = (0, 1) := if_neg (fun h => h0 ⟨h.2.1, h.2.2⟩)
      have g0 : withinB g 0 (c.globals - 1) = false := by simp only [withinB, Bool.and_eq_false_iff, decide_eq_false_iff_not]; omega
      rw [e0]
      clear e0 hk h0
      go_enter Try.func17, Try.ntmps17
      go_wp2_with fail
      have hr := Row.new w c (.slice A l.length cc)
      generalize w.alloc _ = W at hr ⊢
      generalize w.heap.size = X at hr ⊢
      have R := Lib.hid hr
      clear hr
      refine (refcheck_any c _ l _ (HL.out _ R.out.2.2)).mono ?_
      rw [HK.out]
      rintro e w1 ⟨rfl, hp1⟩
      have R1 := Lib.hid (R.out.keep hp1)
      clear hp1
      obtain ⟨c0, c1, c2, c3, c4, c5, c6, c7, c8, _⟩ := R1.out.cells
      go_wp2_with fail
      refine (in_any g 0 (c.globals - 1) _).mono ?_
      rw [g0]
      rintro e w2 ⟨rfl, rfl⟩
      go_wp2_with fail
      go_ret2
      exact ⟨rfl, R1.out.2.2⟩
    case pos =>
      have G0 := Lib.hid (show withinB g 0 (c.globals - 1) = true from by simp only [withinB, Bool.and_eq_true, decide_eq_true_eq]; omega)
      have e0 : globI c l g = (8 * c.frags + 2 * c.spine + g, 0) := if_pos ⟨hk, h0.1, h0.2⟩
      rw [e0]
      clear e0 hk
      go_enter Try.func17, Try.ntmps17
      go_wp2_with fail
      have hr := Row.new w c (.slice A l.length cc)
      generalize w.alloc _ = W at hr ⊢
      generalize w.heap.size = X at hr ⊢
      have R := Lib.hid hr
      clear hr
      refine (refcheck_any c _ l _ (HL.out _ R.out.2.2)).mono ?_
      rw [HK.out]
      rintro e w1 ⟨rfl, hp1⟩
      have R1 := Lib.hid (R.out.keep hp1)
      clear hp1
      obtain ⟨c0, c1, c2, c3, c4, c5, c6, c7, c8, _⟩ := R1.out.cells
      go_wp2_with fail
      refine (in_any g 0 (c.globals - 1) _).mono ?_
      rw [G0.out]
      rintro e w2 ⟨rfl, rfl⟩
      go_wp2_with fail
      go_ret2
      exact ⟨ret_2 (by omega) rfl, R1.out.2.2⟩
  · have hk' : (checkI c l != 0) = true := by simpa using hk
    have e0 : globI c l g = (0, 1) := if_neg (fun h => hk h.1)
    rw [e0]
    clear e0 hk
    go_enter Try.func17, Try.ntmps17
    go_wp2_with fail
    have hr := Row.new w c (.slice A l.length cc)
    generalize w.alloc _ = W at hr ⊢
    generalize w.heap.size = X at hr ⊢
    have R := Lib.hid hr
    clear hr
    refine (refcheck_any c _ l _ (HL.out _ R.out.2.2)).mono ?_
    rintro e w1 ⟨rfl, hp1⟩
    have R1 := Lib.hid (R.out.keep hp1)
    clear hp1
    obtain ⟨c0, c1, c2, c3, c4, c5, c6, c7, c8, _⟩ := R1.out.cells
    go_wp2_with fail
    go_ret2
    exact ⟨rfl, R1.out.2.2⟩

theorem refof_any (c : Cn) (v : Value) (l : List Sh) (x : Int) (w : World) (hl : ShsR w w.heap.size v l) (hx1 : x ≤ 9223372036854775807) :
    Calls Try.prog 18 #[cnV c v, .int .i64 x] w fun e w' => e = .returned (.tuple #[.int .i64 (ofI (z0 c l) (z1 c l) (z3 c l) x).1, .int .i64 (ofI (z0 c l) (z1 c l) (z3 c l) x).2.1, .int .i64 (ofI (z0 c l) (z1 c l) (z3 c l) x).2.2]) ∧ Pure w w' := by
  have HL := Lib.hid (fun (w' : World) (hp : Pure w w') => hl.pure hp)
  obtain ⟨A, cc, rfl⟩ : ∃ A cc, v = .slice A l.length cc := by
    obtain ⟨⟨A, cc, rfl, _⟩, _⟩ := hl
    exact ⟨A, cc, rfl⟩
  clear hl
  have hz := z_bd c l
  have hw := fun (w' : World) (hp : Pure w w') => refwords_any c (.slice A l.length cc) l w' (HL.out _ hp)
  by_cases hx : x < 0
  · have e0 : ofI (z0 c l) (z1 c l) (z3 c l) x = (0, 0, 0) := if_pos hx
    rw [e0]
    clear e0 hw hz
    go_enter Try.func18, Try.ntmps18
    go_wp2_with fail
    go_ret3
    exact ⟨rfl, (Only.refl _ w).alloc _⟩
  · by_cases hge : z0 c l + z1 c l + z1 c l + z3 c l ≤ x
    · have e0 : ofI (z0 c l) (z1 c l) (z3 c l) x = (0, 0, 0) := by
        unfold ofI
        rw [if_neg hx, if_neg (by omega), if_neg (by omega), if_neg (by omega), if_neg (by omega)]
      rw [e0]
      generalize z0 c l + z1 c l + z1 c l + z3 c l = N at hw hge
      have HW := Lib.hid hw
      have hx0 : 0 ≤ x := by omega
      clear e0 hw hz hx
      go_enter Try.func18, Try.ntmps18
      go_wp2_with fail
      have hr := Row.new w c (.slice A l.length cc)
      generalize w.alloc _ = W at hr ⊢
      generalize w.heap.size = X at hr ⊢
      have R := Lib.hid hr
      clear hr
      obtain ⟨c0, c1, c2, c3, c4, c5, c6, c7, c8, _⟩ := R.out.cells
      refine (HW.out _ R.out.2.2).mono ?_
      rintro e w1 ⟨rfl, hp1⟩
      have R1 := Lib.hid (R.out.keep hp1)
      clear hp1 c0 c1 c2 c3 c4 c5 c6 c7 c8
      go_wp2_with fail
      go_ret3
      exact ⟨rfl, R1.out.2.2⟩
    · have hk : checkI c l = 0 := by
        by_cases hk : checkI c l = 0
        · exact hk
        · have := z_no hk
          omega
      obtain ⟨e1, e2, e3⟩ := z_ok hk
      obtain ⟨b0, b1, b2, b3, b4, b5⟩ := check_bd hk
      rw [e1, e2, e3] at hw hge ⊢
      have hx0 : 0 ≤ x := by omega
      have HW := Lib.hid (show ∀ w', Pure w w' → Calls Try.prog 19 #[cnV c (.slice A l.length cc)] w' fun e w2 => e = .returned (.int .i64 (8 * c.frags + 2 * c.spine + c.globals)) ∧ Pure w' w2 from fun w' hp => (hw w' hp).mono fun _ _ ⟨he, hq⟩ => ⟨he.trans (ret_i (by omega)), hq⟩)
      have hlt : x < 8 * c.frags + 2 * c.spine + c.globals := by omega
      clear hw hz hk e1 e2 e3 hge hx
      have v0 : IntKind.i64.wrap (8 * c.frags) = 8 * c.frags := IntWalk.i64_in _ (by omega)
      have v1 : IntKind.i64.wrap (2 * c.spine) = 2 * c.spine := IntWalk.i64_in _ (by omega)
      have v2 : IntKind.i64.wrap (x - 8 * c.frags) = x - 8 * c.frags := IntWalk.i64_in _ (by omega)
      have v3 : IntKind.i64.wrap (x - 8 * c.frags - c.spine) = x - 8 * c.frags - c.spine := IntWalk.i64_in _ (by omega)
      have v4 : IntKind.i64.wrap (x - 8 * c.frags - 2 * c.spine) = x - 8 * c.frags - 2 * c.spine := IntWalk.i64_in _ (by omega)
      have V0 := Lib.hid v0; have V1 := Lib.hid v1; have V2 := Lib.hid v2; have V3 := Lib.hid v3; have V4 := Lib.hid v4
      clear v0 v1 v2 v3 v4
      rcases (by omega : x < 8 * c.frags ∨ (¬ x < 8 * c.frags ∧ x < 8 * c.frags + c.spine) ∨ (¬ x < 8 * c.frags ∧ ¬ x < 8 * c.frags + c.spine ∧ x < 8 * c.frags + 2 * c.spine) ∨ (¬ x < 8 * c.frags ∧ ¬ x < 8 * c.frags + c.spine ∧ ¬ x < 8 * c.frags + 2 * c.spine)) with g | ⟨g0, g⟩ | ⟨g0, g1, g⟩ | ⟨g0, g1, g⟩
      · have e0 : ofI (c.frags * 8) c.spine c.globals x = (1, x / 8, x % 8) := by
          unfold ofI
          rw [if_neg (by omega), if_pos (by omega)]
        rw [e0]
        clear e0
        go_enter Try.func18, Try.ntmps18
        go_wp2_with fail
        have hr := Row.new w c (.slice A l.length cc)
        generalize w.alloc _ = W at hr ⊢
        generalize w.heap.size = X at hr ⊢
        have R := Lib.hid hr
        clear hr
        obtain ⟨c0, c1, c2, c3, c4, c5, c6, c7, c8, _⟩ := R.out.cells
        refine (HW.out _ R.out.2.2).mono ?_
        rintro e w1 ⟨rfl, hp1⟩
        have R1 := Lib.hid (R.out.keep hp1)
        clear hp1 c0 c1 c2 c3 c4 c5 c6 c7 c8
        obtain ⟨c0, c1, c2, c3, c4, c5, c6, c7, c8, _⟩ := R1.out.cells
        go_wp2_with fail
        go_ret3
        exact ⟨rfl, R1.out.2.2⟩
      · have e0 : ofI (c.frags * 8) c.spine c.globals x = (2, 0, x - 8 * c.frags) := by
          unfold ofI
          rw [if_neg (by omega), if_neg (by omega), if_pos (by omega)]
          simp only [Prod.mk.injEq, true_and]
          omega
        rw [e0]
        clear e0
        go_enter Try.func18, Try.ntmps18
        go_wp2_with fail
        have hr := Row.new w c (.slice A l.length cc)
        generalize w.alloc _ = W at hr ⊢
        generalize w.heap.size = X at hr ⊢
        have R := Lib.hid hr
        clear hr
        obtain ⟨c0, c1, c2, c3, c4, c5, c6, c7, c8, _⟩ := R.out.cells
        refine (HW.out _ R.out.2.2).mono ?_
        rintro e w1 ⟨rfl, hp1⟩
        have R1 := Lib.hid (R.out.keep hp1)
        clear hp1 c0 c1 c2 c3 c4 c5 c6 c7 c8
        obtain ⟨c0, c1, c2, c3, c4, c5, c6, c7, c8, _⟩ := R1.out.cells
        go_wp2_with fail
        have v0 := V0.out; have v1 := V1.out; have v2 := V2.out; have v3 := V3.out; have v4 := V4.out
        go_quiet (fail)
        clear v0 v1 v2 v3 v4
        go_wp2_with fail
        go_ret3
        exact ⟨rfl, R1.out.2.2.drewN _⟩
      · have e0 : ofI (c.frags * 8) c.spine c.globals x = (3, 0, x - 8 * c.frags - c.spine) := by
          unfold ofI
          rw [if_neg (by omega), if_neg (by omega), if_neg (by omega), if_pos (by omega)]
          simp only [Prod.mk.injEq, true_and]
          omega
        rw [e0]
        clear e0
        go_enter Try.func18, Try.ntmps18
        go_wp2_with fail
        have hr := Row.new w c (.slice A l.length cc)
        generalize w.alloc _ = W at hr ⊢
        generalize w.heap.size = X at hr ⊢
        have R := Lib.hid hr
        clear hr
        obtain ⟨c0, c1, c2, c3, c4, c5, c6, c7, c8, _⟩ := R.out.cells
        refine (HW.out _ R.out.2.2).mono ?_
        rintro e w1 ⟨rfl, hp1⟩
        have R1 := Lib.hid (R.out.keep hp1)
        clear hp1 c0 c1 c2 c3 c4 c5 c6 c7 c8
        obtain ⟨c0, c1, c2, c3, c4, c5, c6, c7, c8, _⟩ := R1.out.cells
        go_wp2_with fail
        have v0 := V0.out; have v1 := V1.out; have v2 := V2.out; have v3 := V3.out; have v4 := V4.out
        go_quiet (fail)
        clear v0 v1 v2 v3 v4
        go_wp2_with fail
        go_ret3
        exact ⟨rfl, R1.out.2.2.drewN _⟩
      · have e0 : ofI (c.frags * 8) c.spine c.globals x = (4, 0, x - 8 * c.frags - 2 * c.spine) := by
          unfold ofI
          rw [if_neg (by omega), if_neg (by omega), if_neg (by omega), if_neg (by omega), if_pos (by omega)]
          simp only [Prod.mk.injEq, true_and]
          omega
        rw [e0]
        clear e0
        go_enter Try.func18, Try.ntmps18
        go_wp2_with fail
        have hr := Row.new w c (.slice A l.length cc)
        generalize w.alloc _ = W at hr ⊢
        generalize w.heap.size = X at hr ⊢
        have R := Lib.hid hr
        clear hr
        obtain ⟨c0, c1, c2, c3, c4, c5, c6, c7, c8, _⟩ := R.out.cells
        refine (HW.out _ R.out.2.2).mono ?_
        rintro e w1 ⟨rfl, hp1⟩
        have R1 := Lib.hid (R.out.keep hp1)
        clear hp1 c0 c1 c2 c3 c4 c5 c6 c7 c8
        obtain ⟨c0, c1, c2, c3, c4, c5, c6, c7, c8, _⟩ := R1.out.cells
        go_wp2_with fail
        have v0 := V0.out; have v1 := V1.out; have v2 := V2.out; have v3 := V3.out; have v4 := V4.out
        go_quiet (fail)
        clear v0 v1 v2 v3 v4
        go_wp2_with fail
        go_ret3
        exact ⟨rfl, R1.out.2.2.drewN _⟩

end Go.Proofs.Ytdlcfgpmjhcgdaa
