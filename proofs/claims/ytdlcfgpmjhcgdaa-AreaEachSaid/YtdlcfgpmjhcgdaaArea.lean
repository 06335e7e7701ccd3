/-
  Contracts of package area: sizes, Words, at, Frag, Spine, Global, Of.
-/
import Derived.Test.YtdlcfgpmjhcgdaaARef
namespace Go.Proofs.Ytdlcfgpmjhcgdaa
open Go.RowKit

/-! ### Plain -/
/-- The sizes of the regions. -/
def z0 (c : Cn) (l : List Sh) : Int := if checkI c l = 0 then c.frags * 8 else 0
def z1 (c : Cn) (l : List Sh) : Int := if checkI c l = 0 then c.spine else 0
def z3 (c : Cn) (l : List Sh) : Int := if checkI c l = 0 then c.globals else 0
theorem z_ok {c : Cn} {l : List Sh} (h : checkI c l = 0) : z0 c l = c.frags * 8 ∧ z1 c l = c.spine ∧ z3 c l = c.globals := ⟨if_pos h, if_pos h, if_pos h⟩
theorem z_no {c : Cn} {l : List Sh} (h : checkI c l ≠ 0) : z0 c l = 0 ∧ z1 c l = 0 ∧ z3 c l = 0 := ⟨if_neg h, if_neg h, if_neg h⟩
theorem check_bd {c : Cn} {l : List Sh} (h : checkI c l = 0) : 4 ≤ c.frags ∧ c.frags ≤ 1024 ∧ 0 ≤ c.spine ∧ c.spine ≤ 2048 ∧ 0 ≤ c.globals ∧ c.globals ≤ 8 := by
  obtain ⟨a, _, _⟩ := check_zero h
  simp only [tests, withinB, List.all_cons, List.all_nil, id, Bool.and_eq_true, decide_eq_true_eq, Bool.and_true, and_assoc] at a
  omega
theorem z_bd (c : Cn) (l : List Sh) : 0 ≤ z0 c l ∧ z0 c l ≤ 8192 ∧ 0 ≤ z1 c l ∧ z1 c l ≤ 2048 ∧ 0 ≤ z3 c l ∧ z3 c l ≤ 8 := by
  by_cases h : checkI c l = 0
  · obtain ⟨a, b, d⟩ := z_ok h
    have := check_bd h
    omega
  · obtain ⟨a, b, d⟩ := z_no h
    omega

theorem ret_ag {x y z u x' y' z' u' : Int} (h1 : x' = x) (h2 : y' = y) (h3 : z' = z) (h4 : u' = u) : Ending.returned (.agg #[.int .i64 x, .int .i64 y, .int .i64 z, .int .i64 u]) = .returned (.agg #[.int .i64 x', .int .i64 y', .int .i64 z', .int .i64 u']) := by rw [h1, h2, h3, h4]
theorem ret_2 {x y x' y' : Int} (h1 : x' = x) (h2 : y' = y) : Ending.returned (.tuple #[.int .i64 x, .int .i64 y]) = .returned (.tuple #[.int .i64 x', .int .i64 y']) := by rw [h1, h2]
theorem ret_3 {x y z x' y' z' : Int} (h1 : x' = x) (h2 : y' = y) (h3 : z' = z) : Ending.returned (.tuple #[.int .i64 x, .int .i64 y, .int .i64 z]) = .returned (.tuple #[.int .i64 x', .int .i64 y', .int .i64 z']) := by rw [h1, h2, h3]

theorem sizes_any (c : Cn) (v : Value) (l : List Sh) (w : World) (hl : ShsR w w.heap.size v l) :
    Calls Try.prog 26 #[cnV c v] w fun e w' => e = .returned (.agg #[.int .i64 (z0 c l), .int .i64 (z1 c l), .int .i64 (z1 c l), .int .i64 (z3 c l)]) ∧ Pure w w' := by
  have HL := Lib.hid (fun (w' : World) (hp : Pure w w') => hl.pure hp)
  obtain ⟨A, cc, rfl⟩ : ∃ A cc, v = .slice A l.length cc := by
    obtain ⟨⟨A, cc, rfl, _⟩, _⟩ := hl
    exact ⟨A, cc, rfl⟩
  clear hl
  have hr := (Row.new w c (.slice A l.length cc)).keep ((Only.refl _ _).alloc (.cells #[.int .i64 0, .int .i64 0, .int .i64 0, .int .i64 0] 44))
  have hy := heap_alloc_new (w.alloc (.cells #[.int .i64 c.frags, .int .i64 c.spine, .int .i64 c.globals, .int .i64 c.threads, .int .i64 c.locals, .int .i64 c.cache, .int .i64 c.stack, .int .i64 c.low, .slice A l.length cc] 24)) (.cells #[.int .i64 0, .int .i64 0, .int .i64 0, .int .i64 0] 44)
  rw [show (w.alloc (.cells #[.int .i64 c.frags, .int .i64 c.spine, .int .i64 c.globals, .int .i64 c.threads, .int .i64 c.locals, .int .i64 c.cache, .int .i64 c.stack, .int .i64 c.low, .slice A l.length cc] 24)).heap.size = w.heap.size + 1 from by simp] at hy
  have HR := Lib.hid hr
  have HY := Lib.hid hy
  clear hr hy
  go_enter Try.func26, Try.ntmps26
  go_wp2_with fail
  generalize (w.alloc (.cells #[.int .i64 c.frags, .int .i64 c.spine, .int .i64 c.globals, .int .i64 c.threads, .int .i64 c.locals, .int .i64 c.cache, .int .i64 c.stack, .int .i64 c.low, .slice A l.length cc] 24)).alloc (.cells #[.int .i64 0, .int .i64 0, .int .i64 0, .int .i64 0] 44) = W at *
  refine (check_any c _ l _ (HL.out _ HR.out.2.2)).mono ?_
  by_cases hk : checkI c l = 0
  · have HZ := Lib.hid (z_ok hk)
    have HB := Lib.hid (check_bd hk)
    rw [hk]
    rintro e w1 ⟨rfl, hp1⟩
    have hy1 := (hp1.block _ (Array.getElem?_eq_some_iff.1 HY.out).1 (fun f => f)).trans HY.out
    have R1 := Lib.hid (HR.out.keep hp1)
    obtain ⟨c0, c1, c2, c3, c4, c5, c6, c7, c8, _⟩ := R1.out.cells
    have f0 := frozen_of_row w1 _ 0 _ _ hy1
    have f1 := frozen_of_row w1 _ 1 _ _ hy1
    have f2 := frozen_of_row w1 _ 2 _ _ hy1
    have f3 := frozen_of_row w1 _ 3 _ _ hy1
    have y0 : w1.cell? ⟨w.heap.size + 1, 0, none⟩ = some (.int .i64 0) := by rw [cell_of_row _ _ _ _ _ _ hy1]; rfl
    have y1 : w1.cell? ⟨w.heap.size + 1, 1, none⟩ = some (.int .i64 0) := by rw [cell_of_row _ _ _ _ _ _ hy1]; rfl
    have y2 : w1.cell? ⟨w.heap.size + 1, 2, none⟩ = some (.int .i64 0) := by rw [cell_of_row _ _ _ _ _ _ hy1]; rfl
    have y3 : w1.cell? ⟨w.heap.size + 1, 3, none⟩ = some (.int .i64 0) := by rw [cell_of_row _ _ _ _ _ _ hy1]; rfl
    have b1 : 4 ≤ c.frags := HB.out.1
    have b2 : c.frags ≤ 1024 := HB.out.2.1
    clear hp1 hy1 hk
    go_wp2_with fail
    refine bodyPost_ret (v := .agg #[.int .i64 (c.frags * 8), .int .i64 c.spine, .int .i64 c.spine, .int .i64 c.globals]) (by simp [results, Try.results26, go_sem, y0, y1, y2, y3]) rfl ⟨ret_ag HZ.out.1 HZ.out.2.1 HZ.out.2.1 HZ.out.2.2, ?_⟩
    iterate 4 refine Only.setCell ?_ (fun h => absurd h (by simp)) _
    exact R1.out.2.2
  · have HZ := Lib.hid (z_no hk)
    have hk' : (checkI c l != 0) = true := by simpa using hk
    rintro e w1 ⟨rfl, hp1⟩
    have hy1 := (hp1.block _ (Array.getElem?_eq_some_iff.1 HY.out).1 (fun f => f)).trans HY.out
    have R1 := Lib.hid (HR.out.keep hp1)
    have f0 := frozen_of_row w1 _ 0 _ _ hy1
    have f1 := frozen_of_row w1 _ 1 _ _ hy1
    have f2 := frozen_of_row w1 _ 2 _ _ hy1
    have f3 := frozen_of_row w1 _ 3 _ _ hy1
    have y0 : w1.cell? ⟨w.heap.size + 1, 0, none⟩ = some (.int .i64 0) := by rw [cell_of_row _ _ _ _ _ _ hy1]; rfl
    have y1 : w1.cell? ⟨w.heap.size + 1, 1, none⟩ = some (.int .i64 0) := by rw [cell_of_row _ _ _ _ _ _ hy1]; rfl
    have y2 : w1.cell? ⟨w.heap.size + 1, 2, none⟩ = some (.int .i64 0) := by rw [cell_of_row _ _ _ _ _ _ hy1]; rfl
    have y3 : w1.cell? ⟨w.heap.size + 1, 3, none⟩ = some (.int .i64 0) := by rw [cell_of_row _ _ _ _ _ _ hy1]; rfl
    clear hp1 hy1 hk
    go_wp2_with fail
    refine bodyPost_ret (v := .agg #[.int .i64 0, .int .i64 0, .int .i64 0, .int .i64 0]) (by simp [results, Try.results26, go_sem, y0, y1, y2, y3]) rfl ⟨ret_ag HZ.out.1 HZ.out.2.1 HZ.out.2.1 HZ.out.2.2, ?_⟩
    iterate 4 refine Only.setCell ?_ (fun h => absurd h (by simp)) _
    exact R1.out.2.2

/-- What lies ahead of the region with a number. -/
def pre (a b d : Int) : Nat → Int
  | 0 => 0
  | 1 => a
  | 2 => a + b
  | 3 => a + b + b
  | _ => a + b + b + d

theorem words_any (c : Cn) (v : Value) (l : List Sh) (w : World) (hl : ShsR w w.heap.size v l) :
    Calls Try.prog 12 #[cnV c v] w fun e w' => e = .returned (.int .i64 (z0 c l + z1 c l + z1 c l + z3 c l)) ∧ Pure w w' := by
  have hs := fun (w' : World) (hp : Pure w w') => sizes_any c v l w' (hl.pure hp)
  have hb := z_bd c l
  clear hl
  generalize z0 c l = a at *
  generalize z1 c l = b at *
  generalize z3 c l = d at *
  obtain ⟨a0, a1, b0, b1, d0, d1⟩ := hb
  have SZ := Lib.hid hs
  clear hs
  have i0 : ∀ w, (Instr.index 44 (.agg #[.int .i64 a, .int .i64 b, .int .i64 b, .int .i64 d]) (.int .i64 0)).run Try.prog w = .ok (.int .i64 a) w := fun _ => by kernel_rfl
  have i1 : ∀ w, (Instr.index 44 (.agg #[.int .i64 a, .int .i64 b, .int .i64 b, .int .i64 d]) (.int .i64 1)).run Try.prog w = .ok (.int .i64 b) w := fun _ => by kernel_rfl
  have i2 : ∀ w, (Instr.index 44 (.agg #[.int .i64 a, .int .i64 b, .int .i64 b, .int .i64 d]) (.int .i64 2)).run Try.prog w = .ok (.int .i64 b) w := fun _ => by kernel_rfl
  have i3 : ∀ w, (Instr.index 44 (.agg #[.int .i64 a, .int .i64 b, .int .i64 b, .int .i64 d]) (.int .i64 3)).run Try.prog w = .ok (.int .i64 d) w := fun _ => by kernel_rfl
  go_enter Try.func12, Try.ntmps12
  go_wp2_with fail
  have hr := Row.new w c v
  generalize w.alloc _ = W at hr ⊢
  have R := Lib.hid hr
  clear hr
  refine (SZ.out _ R.out.2.2).mono ?_
  rintro e w1 ⟨rfl, hp1⟩
  have P1 := Lib.hid (R.out.2.2.then hp1)
  clear hp1
  go_wp2_with fail
  go_loopw [3, 8] (fun n i wr => ∃ k : Nat, k ≤ 4 ∧ i = .int .i64 k ∧ n = .int .i64 (pre a b d k) ∧ wr = w1) (fun _ i _ => 4 - (intOf i).toNat)
  case atStart => exact ⟨0, by omega, by first | rfl | simp, rfl, rfl⟩
  case round =>
    obtain ⟨k, hk, rfl, rfl, rfl⟩ := hrel
    rcases (by omega : k = 0 ∨ k = 1 ∨ k = 2 ∨ k = 3 ∨ k = 4) with rfl | rfl | rfl | rfl | rfl
    · simp only [pre]
      go_wp2_with fail
      go_roundw
      case rel => exact ⟨1, by omega, by first | rfl | simp, by first | rfl | go_num, by first | trivial | rfl⟩
      case measure => simp [intOf]
    · simp only [pre]
      go_wp2_with fail
      go_roundw
      case rel => exact ⟨2, by omega, by first | rfl | simp, by first | rfl | go_num, by first | trivial | rfl⟩
      case measure => simp [intOf]
    · simp only [pre]
      go_wp2_with fail
      go_roundw
      case rel => exact ⟨3, by omega, by first | rfl | simp, by first | rfl | go_num, by first | trivial | rfl⟩
      case measure => simp [intOf]
    · simp only [pre]
      go_wp2_with fail
      go_roundw
      case rel => exact ⟨4, by omega, by first | rfl | simp, by first | rfl | go_num, by first | trivial | rfl⟩
      case measure => simp [intOf]
    · simp only [pre]
      go_wp2_with fail
      go_ret
      exact ⟨rfl, P1.out⟩

theorem at1_in (c : Cn) (v : Value) (l : List Sh) (k : Int) (w : World) (hl : ShsR w w.heap.size v l) (h0 : 0 ≤ k) (h1 : k < z0 c l) :
    Calls Try.prog 25 #[cnV c v, .int .i64 1, .int .i64 k] w fun e w' => e = .returned (.tuple #[.int .i64 (k + pre (z0 c l) (z1 c l) (z3 c l) 0), .int .i64 0]) ∧ Pure w w' := by
  have hs := fun (w' : World) (hp : Pure w w') => sizes_any c v l w' (hl.pure hp)
  have hb := z_bd c l
  clear hl
  generalize z0 c l = a at *
  generalize z1 c l = b at *
  generalize z3 c l = d at *
  obtain ⟨a0, a1, b0, b1, d0, d1⟩ := hb
  have SZ := Lib.hid hs
  clear hs
  go_enter Try.func25, Try.ntmps25
  go_wp2_with fail
  have hr := Row.new w c v
  generalize w.alloc _ = W at hr ⊢
  have R := Lib.hid hr
  clear hr
  refine (SZ.out _ R.out.2.2).mono ?_
  rintro e w1 ⟨rfl, hp1⟩
  have P1 := Lib.hid (R.out.2.2.then (Pure.then hp1 ((Only.refl _ w1).alloc (.cells #[.int .i64 a, .int .i64 b, .int .i64 b, .int .i64 d] 44))))
  clear hp1
  go_wp2_with fail
  obtain ⟨y0, y1, y2, y3⟩ : (w1.alloc (.cells #[.int .i64 a, .int .i64 b, .int .i64 b, .int .i64 d] 44)).cell? ⟨w1.heap.size, 0, none⟩ = some (.int .i64 a) ∧ (w1.alloc (.cells #[.int .i64 a, .int .i64 b, .int .i64 b, .int .i64 d] 44)).cell? ⟨w1.heap.size, 1, none⟩ = some (.int .i64 b) ∧
      (w1.alloc (.cells #[.int .i64 a, .int .i64 b, .int .i64 b, .int .i64 d] 44)).cell? ⟨w1.heap.size, 2, none⟩ = some (.int .i64 b) ∧ (w1.alloc (.cells #[.int .i64 a, .int .i64 b, .int .i64 b, .int .i64 d] 44)).cell? ⟨w1.heap.size, 3, none⟩ = some (.int .i64 d) := ⟨by simp, by simp, by simp, by simp⟩
  generalize w1.alloc (.cells #[.int .i64 a, .int .i64 b, .int .i64 b, .int .i64 d] 44) = W1 at *
  generalize w1.heap.size = Y at *
  go_loopw [2, 27] (fun n i wr => ∃ j : Nat, j ≤ 0 ∧ i = .int .i64 j ∧ n = .int .i64 (k + pre a b d j) ∧ wr = W1) (fun _ i _ => 0 - (intOf i).toNat)
  case atStart => exact ⟨0, by omega, by first | rfl | simp, by simp [pre], rfl⟩
  case round =>
    obtain ⟨j, hj, rfl, rfl, rfl⟩ := hrel
    rcases (by omega : j = 0) with rfl
    · simp only [pre]
      go_wp2_with fail
      go_ret2
      exact ⟨rfl, P1.out⟩

theorem at1_out (c : Cn) (v : Value) (l : List Sh) (k : Int) (w : World) (hl : ShsR w w.heap.size v l) (h : k < 0 ∨ z0 c l ≤ k) :
    Calls Try.prog 25 #[cnV c v, .int .i64 1, .int .i64 k] w fun e w' => e = .returned (.tuple #[.int .i64 0, .int .i64 1]) ∧ Pure w w' := by
  have hs := fun (w' : World) (hp : Pure w w') => sizes_any c v l w' (hl.pure hp)
  have hb := z_bd c l
  clear hl
  generalize z0 c l = a at *
  generalize z1 c l = b at *
  generalize z3 c l = d at *
  obtain ⟨a0, a1, b0, b1, d0, d1⟩ := hb
  have SZ := Lib.hid hs
  clear hs
  by_cases h0 : k < 0
  · clear h
    go_enter Try.func25, Try.ntmps25
    go_wp2_with fail
    have hr := Row.new w c v
    generalize w.alloc _ = W at hr ⊢
    have R := Lib.hid hr
    clear hr
    refine (SZ.out _ R.out.2.2).mono ?_
    rintro e w1 ⟨rfl, hp1⟩
    have P1 := Lib.hid (R.out.2.2.then hp1)
    clear hp1
    go_wp2_with fail
    go_ret2
    exact ⟨rfl, P1.out.alloc _⟩
  · have h1 : a ≤ k := by omega
    clear h
    go_enter Try.func25, Try.ntmps25
    go_wp2_with fail
    have hr := Row.new w c v
    generalize w.alloc _ = W at hr ⊢
    have R := Lib.hid hr
    clear hr
    refine (SZ.out _ R.out.2.2).mono ?_
    rintro e w1 ⟨rfl, hp1⟩
    have P1 := Lib.hid (R.out.2.2.then hp1)
    clear hp1
    go_wp2_with fail
    go_ret2
    exact ⟨rfl, P1.out.alloc _⟩

theorem at2_in (c : Cn) (v : Value) (l : List Sh) (k : Int) (w : World) (hl : ShsR w w.heap.size v l) (h0 : 0 ≤ k) (h1 : k < z1 c l) :
    Calls Try.prog 25 #[cnV c v, .int .i64 2, .int .i64 k] w fun e w' => e = .returned (.tuple #[.int .i64 (k + pre (z0 c l) (z1 c l) (z3 c l) 1), .int .i64 0]) ∧ Pure w w' := by
  have hs := fun (w' : World) (hp : Pure w w') => sizes_any c v l w' (hl.pure hp)
  have hb := z_bd c l
  clear hl
  generalize z0 c l = a at *
  generalize z1 c l = b at *
  generalize z3 c l = d at *
  obtain ⟨a0, a1, b0, b1, d0, d1⟩ := hb
  have SZ := Lib.hid hs
  clear hs
  go_enter Try.func25, Try.ntmps25
  go_wp2_with fail
  have hr := Row.new w c v
  generalize w.alloc _ = W at hr ⊢
  have R := Lib.hid hr
  clear hr
  refine (SZ.out _ R.out.2.2).mono ?_
  rintro e w1 ⟨rfl, hp1⟩
  have P1 := Lib.hid (R.out.2.2.then (Pure.then hp1 ((Only.refl _ w1).alloc (.cells #[.int .i64 a, .int .i64 b, .int .i64 b, .int .i64 d] 44))))
  clear hp1
  go_wp2_with fail
  obtain ⟨y0, y1, y2, y3⟩ : (w1.alloc (.cells #[.int .i64 a, .int .i64 b, .int .i64 b, .int .i64 d] 44)).cell? ⟨w1.heap.size, 0, none⟩ = some (.int .i64 a) ∧ (w1.alloc (.cells #[.int .i64 a, .int .i64 b, .int .i64 b, .int .i64 d] 44)).cell? ⟨w1.heap.size, 1, none⟩ = some (.int .i64 b) ∧
      (w1.alloc (.cells #[.int .i64 a, .int .i64 b, .int .i64 b, .int .i64 d] 44)).cell? ⟨w1.heap.size, 2, none⟩ = some (.int .i64 b) ∧ (w1.alloc (.cells #[.int .i64 a, .int .i64 b, .int .i64 b, .int .i64 d] 44)).cell? ⟨w1.heap.size, 3, none⟩ = some (.int .i64 d) := ⟨by simp, by simp, by simp, by simp⟩
  generalize w1.alloc (.cells #[.int .i64 a, .int .i64 b, .int .i64 b, .int .i64 d] 44) = W1 at *
  generalize w1.heap.size = Y at *
  go_loopw [2, 27] (fun n i wr => ∃ j : Nat, j ≤ 1 ∧ i = .int .i64 j ∧ n = .int .i64 (k + pre a b d j) ∧ wr = W1) (fun _ i _ => 1 - (intOf i).toNat)
  case atStart => exact ⟨0, by omega, by first | rfl | simp, by simp [pre], rfl⟩
  case round =>
    obtain ⟨j, hj, rfl, rfl, rfl⟩ := hrel
    rcases (by omega : j = 0 ∨ j = 1) with rfl | rfl
    · simp only [pre]
      go_wp2_with fail
      go_roundw
      case rel => exact ⟨1, by omega, by first | rfl | simp, by first | rfl | go_num, by first | trivial | rfl⟩
      case measure => simp [intOf]
    · simp only [pre]
      go_wp2_with fail
      go_ret2
      exact ⟨rfl, P1.out⟩

theorem at2_out (c : Cn) (v : Value) (l : List Sh) (k : Int) (w : World) (hl : ShsR w w.heap.size v l) (h : k < 0 ∨ z1 c l ≤ k) :
    Calls Try.prog 25 #[cnV c v, .int .i64 2, .int .i64 k] w fun e w' => e = .returned (.tuple #[.int .i64 0, .int .i64 1]) ∧ Pure w w' := by
  have hs := fun (w' : World) (hp : Pure w w') => sizes_any c v l w' (hl.pure hp)
  have hb := z_bd c l
  clear hl
  generalize z0 c l = a at *
  generalize z1 c l = b at *
  generalize z3 c l = d at *
  obtain ⟨a0, a1, b0, b1, d0, d1⟩ := hb
  have SZ := Lib.hid hs
  clear hs
  by_cases h0 : k < 0
  · clear h
    go_enter Try.func25, Try.ntmps25
    go_wp2_with fail
    have hr := Row.new w c v
    generalize w.alloc _ = W at hr ⊢
    have R := Lib.hid hr
    clear hr
    refine (SZ.out _ R.out.2.2).mono ?_
    rintro e w1 ⟨rfl, hp1⟩
    have P1 := Lib.hid (R.out.2.2.then hp1)
    clear hp1
    go_wp2_with fail
    go_ret2
    exact ⟨rfl, P1.out.alloc _⟩
  · have h1 : b ≤ k := by omega
    clear h
    go_enter Try.func25, Try.ntmps25
    go_wp2_with fail
    have hr := Row.new w c v
    generalize w.alloc _ = W at hr ⊢
    have R := Lib.hid hr
    clear hr
    refine (SZ.out _ R.out.2.2).mono ?_
    rintro e w1 ⟨rfl, hp1⟩
    have P1 := Lib.hid (R.out.2.2.then hp1)
    clear hp1
    go_wp2_with fail
    go_ret2
    exact ⟨rfl, P1.out.alloc _⟩

theorem at3_in (c : Cn) (v : Value) (l : List Sh) (k : Int) (w : World) (hl : ShsR w w.heap.size v l) (h0 : 0 ≤ k) (h1 : k < z1 c l) :
    Calls Try.prog 25 #[cnV c v, .int .i64 3, .int .i64 k] w fun e w' => e = .returned (.tuple #[.int .i64 (k + pre (z0 c l) (z1 c l) (z3 c l) 2), .int .i64 0]) ∧ Pure w w' := by
  have hs := fun (w' : World) (hp : Pure w w') => sizes_any c v l w' (hl.pure hp)
  have hb := z_bd c l
  clear hl
  generalize z0 c l = a at *
  generalize z1 c l = b at *
  generalize z3 c l = d at *
  obtain ⟨a0, a1, b0, b1, d0, d1⟩ := hb
  have SZ := Lib.hid hs
  clear hs
  go_enter Try.func25, Try.ntmps25
  go_wp2_with fail
  have hr := Row.new w c v
  generalize w.alloc _ = W at hr ⊢
  have R := Lib.hid hr
  clear hr
  refine (SZ.out _ R.out.2.2).mono ?_
  rintro e w1 ⟨rfl, hp1⟩
  have P1 := Lib.hid (R.out.2.2.then (Pure.then hp1 ((Only.refl _ w1).alloc (.cells #[.int .i64 a, .int .i64 b, .int .i64 b, .int .i64 d] 44))))
  clear hp1
  go_wp2_with fail
  obtain ⟨y0, y1, y2, y3⟩ : (w1.alloc (.cells #[.int .i64 a, .int .i64 b, .int .i64 b, .int .i64 d] 44)).cell? ⟨w1.heap.size, 0, none⟩ = some (.int .i64 a) ∧ (w1.alloc (.cells #[.int .i64 a, .int .i64 b, .int .i64 b, .int .i64 d] 44)).cell? ⟨w1.heap.size, 1, none⟩ = some (.int .i64 b) ∧
      (w1.alloc (.cells #[.int .i64 a, .int .i64 b, .int .i64 b, .int .i64 d] 44)).cell? ⟨w1.heap.size, 2, none⟩ = some (.int .i64 b) ∧ (w1.alloc (.cells #[.int .i64 a, .int .i64 b, .int .i64 b, .int .i64 d] 44)).cell? ⟨w1.heap.size, 3, none⟩ = some (.int .i64 d) := ⟨by simp, by simp, by simp, by simp⟩
  generalize w1.alloc (.cells #[.int .i64 a, .int .i64 b, .int .i64 b, .int .i64 d] 44) = W1 at *
  generalize w1.heap.size = Y at *
  go_loopw [2, 27] (fun n i wr => ∃ j : Nat, j ≤ 2 ∧ i = .int .i64 j ∧ n = .int .i64 (k + pre a b d j) ∧ wr = W1) (fun _ i _ => 2 - (intOf i).toNat)
  case atStart => exact ⟨0, by omega, by first | rfl | simp, by simp [pre], rfl⟩
  case round =>
    obtain ⟨j, hj, rfl, rfl, rfl⟩ := hrel
    rcases (by omega : j = 0 ∨ j = 1 ∨ j = 2) with rfl | rfl | rfl
    · simp only [pre]
      go_wp2_with fail
      go_roundw
      case rel => exact ⟨1, by omega, by first | rfl | simp, by first | rfl | go_num, by first | trivial | rfl⟩
      case measure => simp [intOf]
    · simp only [pre]
      go_wp2_with fail
      go_roundw
      case rel => exact ⟨2, by omega, by first | rfl | simp, by first | rfl | go_num, by first | trivial | rfl⟩
      case measure => simp [intOf]
    · simp only [pre]
      go_wp2_with fail
      go_ret2
      exact ⟨rfl, P1.out⟩

theorem at3_out (c : Cn) (v : Value) (l : List Sh) (k : Int) (w : World) (hl : ShsR w w.heap.size v l) (h : k < 0 ∨ z1 c l ≤ k) :
    Calls Try.prog 25 #[cnV c v, .int .i64 3, .int .i64 k] w fun e w' => e = .returned (.tuple #[.int .i64 0, .int .i64 1]) ∧ Pure w w' := by
  have hs := fun (w' : World) (hp : Pure w w') => sizes_any c v l w' (hl.pure hp)
  have hb := z_bd c l
  clear hl
  generalize z0 c l = a at *
  generalize z1 c l = b at *
  generalize z3 c l = d at *
  obtain ⟨a0, a1, b0, b1, d0, d1⟩ := hb
  have SZ := Lib.hid hs
  clear hs
  by_cases h0 : k < 0
  · clear h
    go_enter Try.func25, Try.ntmps25
    go_wp2_with fail
    have hr := Row.new w c v
    generalize w.alloc _ = W at hr ⊢
    have R := Lib.hid hr
    clear hr
    refine (SZ.out _ R.out.2.2).mono ?_
    rintro e w1 ⟨rfl, hp1⟩
    have P1 := Lib.hid (R.out.2.2.then hp1)
    clear hp1
    go_wp2_with fail
    go_ret2
    exact ⟨rfl, P1.out.alloc _⟩
  · have h1 : b ≤ k := by omega
    clear h
    go_enter Try.func25, Try.ntmps25
    go_wp2_with fail
    have hr := Row.new w c v
    generalize w.alloc _ = W at hr ⊢
    have R := Lib.hid hr
    clear hr
    refine (SZ.out _ R.out.2.2).mono ?_
    rintro e w1 ⟨rfl, hp1⟩
    have P1 := Lib.hid (R.out.2.2.then hp1)
    clear hp1
    go_wp2_with fail
    go_ret2
    exact ⟨rfl, P1.out.alloc _⟩

theorem at4_in (c : Cn) (v : Value) (l : List Sh) (k : Int) (w : World) (hl : ShsR w w.heap.size v l) (h0 : 0 ≤ k) (h1 : k < z3 c l) :
    Calls Try.prog 25 #[cnV c v, .int .i64 4, .int .i64 k] w fun e w' => e = .returned (.tuple #[.int .i64 (k + pre (z0 c l) (z1 c l) (z3 c l) 3), .int .i64 0]) ∧ Pure w w' := by
  have hs := fun (w' : World) (hp : Pure w w') => sizes_any c v l w' (hl.pure hp)
  have hb := z_bd c l
  clear hl
  generalize z0 c l = a at *
  generalize z1 c l = b at *
  generalize z3 c l = d at *
  obtain ⟨a0, a1, b0, b1, d0, d1⟩ := hb
  have SZ := Lib.hid hs
  clear hs
  go_enter Try.func25, Try.ntmps25
  go_wp2_with fail
  have hr := Row.new w c v
  generalize w.alloc _ = W at hr ⊢
  have R := Lib.hid hr
  clear hr
  refine (SZ.out _ R.out.2.2).mono ?_
  rintro e w1 ⟨rfl, hp1⟩
  have P1 := Lib.hid (R.out.2.2.then (Pure.then hp1 ((Only.refl _ w1).alloc (.cells #[.int .i64 a, .int .i64 b, .int .i64 b, .int .i64 d] 44))))
  clear hp1
  go_wp2_with fail
  obtain ⟨y0, y1, y2, y3⟩ : (w1.alloc (.cells #[.int .i64 a, .int .i64 b, .int .i64 b, .int .i64 d] 44)).cell? ⟨w1.heap.size, 0, none⟩ = some (.int .i64 a) ∧ (w1.alloc (.cells #[.int .i64 a, .int .i64 b, .int .i64 b, .int .i64 d] 44)).cell? ⟨w1.heap.size, 1, none⟩ = some (.int .i64 b) ∧
      (w1.alloc (.cells #[.int .i64 a, .int .i64 b, .int .i64 b, .int .i64 d] 44)).cell? ⟨w1.heap.size, 2, none⟩ = some (.int .i64 b) ∧ (w1.alloc (.cells #[.int .i64 a, .int .i64 b, .int .i64 b, .int .i64 d] 44)).cell? ⟨w1.heap.size, 3, none⟩ = some (.int .i64 d) := ⟨by simp, by simp, by simp, by simp⟩
  generalize w1.alloc (.cells #[.int .i64 a, .int .i64 b, .int .i64 b, .int .i64 d] 44) = W1 at *
  generalize w1.heap.size = Y at *
  go_loopw [2, 27] (fun n i wr => ∃ j : Nat, j ≤ 3 ∧ i = .int .i64 j ∧ n = .int .i64 (k + pre a b d j) ∧ wr = W1) (fun _ i _ => 3 - (intOf i).toNat)
  case atStart => exact ⟨0, by omega, by first | rfl | simp, by simp [pre], rfl⟩
  case round =>
    obtain ⟨j, hj, rfl, rfl, rfl⟩ := hrel
    rcases (by omega : j = 0 ∨ j = 1 ∨ j = 2 ∨ j = 3) with rfl | rfl | rfl | rfl
    · simp only [pre]
      go_wp2_with fail
      go_roundw
      case rel => exact ⟨1, by omega, by first | rfl | simp, by first | rfl | go_num, by first | trivial | rfl⟩
      case measure => simp [intOf]
    · simp only [pre]
      go_wp2_with fail
      go_roundw
      case rel => exact ⟨2, by omega, by first | rfl | simp, by first | rfl | go_num, by first | trivial | rfl⟩
      case measure => simp [intOf]
    · simp only [pre]
      go_wp2_with fail
      go_roundw
      case rel => exact ⟨3, by omega, by first | rfl | simp, by first | rfl | go_num, by first | trivial | rfl⟩
      case measure => simp [intOf]
    · simp only [pre]
      go_wp2_with fail
      go_ret2
      exact ⟨rfl, P1.out⟩

theorem at4_out (c : Cn) (v : Value) (l : List Sh) (k : Int) (w : World) (hl : ShsR w w.heap.size v l) (h : k < 0 ∨ z3 c l ≤ k) :
    Calls Try.prog 25 #[cnV c v, .int .i64 4, .int .i64 k] w fun e w' => e = .returned (.tuple #[.int .i64 0, .int .i64 1]) ∧ Pure w w' := by
  have hs := fun (w' : World) (hp : Pure w w') => sizes_any c v l w' (hl.pure hp)
  have hb := z_bd c l
  clear hl
  generalize z0 c l = a at *
  generalize z1 c l = b at *
  generalize z3 c l = d at *
  obtain ⟨a0, a1, b0, b1, d0, d1⟩ := hb
  have SZ := Lib.hid hs
  clear hs
  by_cases h0 : k < 0
  · clear h
    go_enter Try.func25, Try.ntmps25
    go_wp2_with fail
    have hr := Row.new w c v
    generalize w.alloc _ = W at hr ⊢
    have R := Lib.hid hr
    clear hr
    refine (SZ.out _ R.out.2.2).mono ?_
    rintro e w1 ⟨rfl, hp1⟩
    have P1 := Lib.hid (R.out.2.2.then hp1)
    clear hp1
    go_wp2_with fail
    go_ret2
    exact ⟨rfl, P1.out.alloc _⟩
  · have h1 : d ≤ k := by omega
    clear h
    go_enter Try.func25, Try.ntmps25
    go_wp2_with fail
    have hr := Row.new w c v
    generalize w.alloc _ = W at hr ⊢
    have R := Lib.hid hr
    clear hr
    refine (SZ.out _ R.out.2.2).mono ?_
    rintro e w1 ⟨rfl, hp1⟩
    have P1 := Lib.hid (R.out.2.2.then hp1)
    clear hp1
    go_wp2_with fail
    go_ret2
    exact ⟨rfl, P1.out.alloc _⟩

/-! ### The exported functions -/
theorem global_in (c : Cn) (v : Value) (l : List Sh) (k : Int) (w : World) (hl : ShsR w w.heap.size v l) (hk : checkI c l = 0) (h0 : 0 ≤ k) (h1 : k < c.globals) :
    Calls Try.prog 16 #[cnV c v, .int .i64 k] w fun e w' => e = .returned (.tuple #[.int .i64 (8 * c.frags + 2 * c.spine + k), .int .i64 0]) ∧ Pure w w' := by
  have HL := Lib.hid (fun (w' : World) (hp : Pure w w') => hl.pure hp)
  have hz := z_ok hk
  have h1' : k < z3 c l := by omega
  have HZ := Lib.hid hz
  clear hl hk hz h1
  go_enter Try.func16, Try.ntmps16
  go_wp2_with fail
  have hr := Row.new w c v
  generalize w.alloc _ = W at hr ⊢
  have R := Lib.hid hr
  clear hr
  refine (at4_in c _ l k _ (HL.out _ R.out.2.2) h0 h1').mono ?_
  rintro e w1 ⟨rfl, hp1⟩
  have P1 := Lib.hid (R.out.2.2.then hp1)
  clear hp1
  go_wp2_with fail
  go_ret2
  exact ⟨ret_2 (by have := HZ.out; simp only [pre]; omega) rfl, P1.out⟩
theorem global_out (c : Cn) (v : Value) (l : List Sh) (k : Int) (w : World) (hl : ShsR w w.heap.size v l) (h : checkI c l ≠ 0 ∨ k < 0 ∨ c.globals ≤ k) :
    Calls Try.prog 16 #[cnV c v, .int .i64 k] w fun e w' => e = .returned (.tuple #[.int .i64 0, .int .i64 1]) ∧ Pure w w' := by
  have HL := Lib.hid (fun (w' : World) (hp : Pure w w') => hl.pure hp)
  have hz : k < 0 ∨ z3 c l ≤ k := by
    by_cases hk : checkI c l = 0
    · have := z_ok hk
      omega
    · have := z_no hk
      omega
  have HZ := Lib.hid hz
  clear hl hz h
  go_enter Try.func16, Try.ntmps16
  go_wp2_with fail
  have hr := Row.new w c v
  generalize w.alloc _ = W at hr ⊢
  have R := Lib.hid hr
  clear hr
  refine (at4_out c _ l k _ (HL.out _ R.out.2.2) HZ.out).mono ?_
  rintro e w1 ⟨rfl, hp1⟩
  have P1 := Lib.hid (R.out.2.2.then hp1)
  clear hp1
  go_wp2_with fail
  go_ret2
  exact ⟨rfl, P1.out⟩

theorem spine_in (c : Cn) (v : Value) (l : List Sh) (s k : Int) (w : World) (hl : ShsR w w.heap.size v l) (hk : checkI c l = 0) (hs : s = 0 ∨ s = 1) (h0 : 0 ≤ k) (h1 : k < c.spine) :
    Calls Try.prog 14 #[cnV c v, .int .i64 s, .int .i64 k] w fun e w' => e = .returned (.tuple #[.int .i64 (8 * c.frags + s * c.spine + k), .int .i64 0]) ∧ Pure w w' := by
  have HL := Lib.hid (fun (w' : World) (hp : Pure w w') => hl.pure hp)
  have hz := z_ok hk
  have h1' : k < z1 c l := by omega
  have HZ := Lib.hid hz
  clear hl hk hz h1
  rcases hs with rfl | rfl
  · go_enter Try.func14, Try.ntmps14
    go_wp2_with fail
    have hr := Row.new w c v
    generalize w.alloc _ = W at hr ⊢
    have R := Lib.hid hr
    clear hr
    refine (at2_in c _ l k _ (HL.out _ R.out.2.2) h0 h1').mono ?_
    rintro e w1 ⟨rfl, hp1⟩
    have P1 := Lib.hid (R.out.2.2.then hp1)
    clear hp1
    go_wp2_with fail
    go_ret2
    exact ⟨ret_2 (by have := HZ.out; simp only [pre]; omega) rfl, P1.out⟩
  · go_enter Try.func14, Try.ntmps14
    go_wp2_with fail
    have hr := Row.new w c v
    generalize w.alloc _ = W at hr ⊢
    have R := Lib.hid hr
    clear hr
    refine (at3_in c _ l k _ (HL.out _ R.out.2.2) h0 h1').mono ?_
    rintro e w1 ⟨rfl, hp1⟩
    have P1 := Lib.hid (R.out.2.2.then hp1)
    clear hp1
    go_wp2_with fail
    go_ret2
    exact ⟨ret_2 (by have := HZ.out; simp only [pre]; omega) rfl, P1.out⟩
theorem spine_out (c : Cn) (v : Value) (l : List Sh) (s k : Int) (w : World) (hl : ShsR w w.heap.size v l) (h : checkI c l ≠ 0 ∨ (s ≠ 0 ∧ s ≠ 1) ∨ k < 0 ∨ c.spine ≤ k) :
    Calls Try.prog 14 #[cnV c v, .int .i64 s, .int .i64 k] w fun e w' => e = .returned (.tuple #[.int .i64 0, .int .i64 1]) ∧ Pure w w' := by
  have HL := Lib.hid (fun (w' : World) (hp : Pure w w') => hl.pure hp)
  by_cases hs : s = 0 ∨ s = 1
  · have hz : k < 0 ∨ z1 c l ≤ k := by
      by_cases hk : checkI c l = 0
      · have := z_ok hk
        omega
      · have := z_no hk
        omega
    have HZ := Lib.hid hz
    clear hl hz h
    rcases hs with rfl | rfl
    · go_enter Try.func14, Try.ntmps14
      go_wp2_with fail
      have hr := Row.new w c v
      generalize w.alloc _ = W at hr ⊢
      have R := Lib.hid hr
      clear hr
      refine (at2_out c _ l k _ (HL.out _ R.out.2.2) HZ.out).mono ?_
      rintro e w1 ⟨rfl, hp1⟩
      have P1 := Lib.hid (R.out.2.2.then hp1)
      clear hp1
      go_wp2_with fail
      go_ret2
      exact ⟨rfl, P1.out⟩
    · go_enter Try.func14, Try.ntmps14
      go_wp2_with fail
      have hr := Row.new w c v
      generalize w.alloc _ = W at hr ⊢
      have R := Lib.hid hr
      clear hr
      refine (at3_out c _ l k _ (HL.out _ R.out.2.2) HZ.out).mono ?_
      rintro e w1 ⟨rfl, hp1⟩
      have P1 := Lib.hid (R.out.2.2.then hp1)
      clear hp1
      go_wp2_with fail
      go_ret2
      exact ⟨rfl, P1.out⟩
  · have hs1 : (s != 0) = true := by simp; omega
    have hs2 : (s != 1) = true := by simp; omega
    clear hl h hs
    go_enter Try.func14, Try.ntmps14
    go_wp2_with fail
    go_ret2
    exact ⟨rfl, (Only.refl _ w).alloc _⟩

theorem frag_in (c : Cn) (v : Value) (l : List Sh) (i k : Int) (w : World) (hl : ShsR w w.heap.size v l) (hk : checkI c l = 0) (i0 : 0 ≤ i) (i1 : i < c.frags) (k0 : 0 ≤ k) (k1 : k < 8) :
    Calls Try.prog 10 #[cnV c v, .int .i64 i, .int .i64 k] w fun e w' => e = .returned (.tuple #[.int .i64 (8 * i + k), .int .i64 0]) ∧ Pure w w' := by
  have HL := Lib.hid (fun (w' : World) (hp : Pure w w') => hl.pure hp)
  obtain ⟨A, cc, rfl⟩ : ∃ A cc, v = .slice A l.length cc := by
    obtain ⟨⟨A, cc, rfl, _⟩, _⟩ := hl
    exact ⟨A, cc, rfl⟩
  have hz := z_ok hk
  have hb := check_bd hk
  have h1' : i * 8 + k < z0 c l := by omega
  have h0' : 0 ≤ i * 8 + k := by omega
  have i2 : i ≤ 1024 := by omega
  have HK := Lib.hid hk
  have H0 := Lib.hid h0'
  have H1 := Lib.hid h1'
  clear hl hk hz hb h0' h1'
  go_enter Try.func10, Try.ntmps10
  go_wp2_with fail
  have hr := Row.new w c (.slice A l.length cc)
  generalize w.alloc _ = W at hr ⊢
  have R := Lib.hid hr
  clear hr
  refine (check_any c _ l _ (HL.out _ R.out.2.2)).mono ?_
  rw [HK.out]
  rintro e w1 ⟨rfl, hp1⟩
  have R1 := Lib.hid (R.out.keep hp1)
  clear hp1
  obtain ⟨c0, c1, c2, c3, c4, c5, c6, c7, c8, _⟩ := R1.out.cells
  go_wp2_with fail
  refine (at1_in c _ l (i * 8 + k) _ (HL.out _ R1.out.2.2) H0.out H1.out).mono ?_
  rintro e w2 ⟨rfl, hp2⟩
  have P2 := Lib.hid (R1.out.2.2.then hp2)
  clear hp2
  go_wp2_with fail
  go_ret2
  exact ⟨ret_2 (by simp only [pre]; omega) rfl, P2.out⟩
theorem frag_out (c : Cn) (v : Value) (l : List Sh) (i k : Int) (w : World) (hl : ShsR w w.heap.size v l) (h : checkI c l ≠ 0 ∨ i < 0 ∨ c.frags ≤ i ∨ k < 0 ∨ 8 ≤ k) :
    Calls Try.prog 10 #[cnV c v, .int .i64 i, .int .i64 k] w fun e w' => e = .returned (.tuple #[.int .i64 0, .int .i64 1]) ∧ Pure w w' := by
  have HL := Lib.hid (fun (w' : World) (hp : Pure w w') => hl.pure hp)
  obtain ⟨A, cc, rfl⟩ : ∃ A cc, v = .slice A l.length cc := by
    obtain ⟨⟨A, cc, rfl, _⟩, _⟩ := hl
    exact ⟨A, cc, rfl⟩
  clear hl
  rcases (by omega : i < 0 ∨ (0 ≤ i ∧ c.frags ≤ i) ∨ (0 ≤ i ∧ i < c.frags ∧ k < 0) ∨ (0 ≤ i ∧ i < c.frags ∧ 0 ≤ k ∧ 8 ≤ k) ∨ (0 ≤ i ∧ i < c.frags ∧ 0 ≤ k ∧ k < 8 ∧ checkI c l ≠ 0)) with g | ⟨g0, g1⟩ | ⟨g0, g1, g2⟩ | ⟨g0, g1, g2, g3⟩ | ⟨g0, g1, g2, g3, g4⟩
  case inr.inr.inr.inr =>
    have hk' : (checkI c l != 0) = true := by simpa using g4
    clear h g4
    go_enter Try.func10, Try.ntmps10
    go_wp2_with fail
    have hr := Row.new w c (.slice A l.length cc)
    generalize w.alloc _ = W at hr ⊢
    have R := Lib.hid hr
    clear hr
    refine (check_any c _ l _ (HL.out _ R.out.2.2)).mono ?_
    rintro e w1 ⟨rfl, hp1⟩
    have P1 := Lib.hid (R.out.2.2.then hp1)
    clear hp1
    go_wp2_with fail
    go_ret2
    exact ⟨rfl, P1.out⟩
  all_goals
    clear h
    go_enter Try.func10, Try.ntmps10
    go_wp2_with fail
    go_ret2
    exact ⟨rfl, (Only.refl _ w).alloc _⟩

/-- What an address is of. -/
def ofI (a b d x : Int) : Int × Int × Int :=
  if x < 0 then (0, 0, 0) else if x < a then (1, x / 8, x % 8) else if x < a + b then (2, 0, x - a) else if x < a + b + b then (3, 0, x - a - b) else if x < a + b + b + d then (4, 0, x - a - b - b) else (0, 0, 0)
theorem of_any (c : Cn) (v : Value) (l : List Sh) (x : Int) (w : World) (hl : ShsR w w.heap.size v l) (hx1 : x ≤ 9223372036854775807) :
    Calls Try.prog 11 #[cnV c v, .int .i64 x] w fun e w' => e = .returned (.tuple #[.int .i64 (ofI (z0 c l) (z1 c l) (z3 c l) x).1, .int .i64 (ofI (z0 c l) (z1 c l) (z3 c l) x).2.1, .int .i64 (ofI (z0 c l) (z1 c l) (z3 c l) x).2.2]) ∧ Pure w w' := by
  have hs := fun (w' : World) (hp : Pure w w') => sizes_any c v l w' (hl.pure hp)
  have hb := z_bd c l
  clear hl
  generalize z0 c l = a at *
  generalize z1 c l = b at *
  generalize z3 c l = d at *
  obtain ⟨a0, a1, b0, b1, d0, d1⟩ := hb
  have SZ := Lib.hid hs
  clear hs
  have i0 : ∀ w, (Instr.index 44 (.agg #[.int .i64 a, .int .i64 b, .int .i64 b, .int .i64 d]) (.int .i64 0)).run Try.prog w = .ok (.int .i64 a) w := fun _ => by kernel_rfl
  have i1 : ∀ w, (Instr.index 44 (.agg #[.int .i64 a, .int .i64 b, .int .i64 b, .int .i64 d]) (.int .i64 1)).run Try.prog w = .ok (.int .i64 b) w := fun _ => by kernel_rfl
  have i2 : ∀ w, (Instr.index 44 (.agg #[.int .i64 a, .int .i64 b, .int .i64 b, .int .i64 d]) (.int .i64 2)).run Try.prog w = .ok (.int .i64 b) w := fun _ => by kernel_rfl
  have i3 : ∀ w, (Instr.index 44 (.agg #[.int .i64 a, .int .i64 b, .int .i64 b, .int .i64 d]) (.int .i64 3)).run Try.prog w = .ok (.int .i64 d) w := fun _ => by kernel_rfl
  by_cases hx : x < 0
  · have e0 : ofI a b d x = (0, 0, 0) := if_pos hx
    rw [e0]
    clear e0
    go_enter Try.func11, Try.ntmps11
    go_wp2_with fail
    go_ret3
    exact ⟨rfl, (Only.refl _ w).alloc _⟩
  · have OF := Lib.hid (show ofI a b d x = if x < a then (1, x / 8, x % 8) else if x < a + b then (2, 0, x - a) else if x < a + b + b then (3, 0, x - a - b) else if x < a + b + b + d then (4, 0, x - a - b - b) else (0, 0, 0) from if_neg hx)
    generalize ofI a b d x = o at *
    have hx0 : 0 ≤ x := by omega
    clear hx
    go_enter Try.func11, Try.ntmps11
    go_wp2_with fail
    have hr := Row.new w c v
    generalize w.alloc _ = W at hr ⊢
    have R := Lib.hid hr
    clear hr
    refine (SZ.out _ R.out.2.2).mono ?_
    rintro e w1 ⟨rfl, hp1⟩
    have P1 := Lib.hid (R.out.2.2.then hp1)
    clear hp1
    go_wp2_with fail
    go_loopw [1, 13] (fun n i wr => ∃ k : Nat, k ≤ 4 ∧ i = .int .i64 k ∧ n = .int .i64 (x - pre a b d k) ∧ pre a b d k ≤ x ∧ wr = w1) (fun _ i _ => 4 - (intOf i).toNat)
    case atStart => exact ⟨0, by omega, by first | rfl | simp, by simp [pre], by simpa [pre] using hx0, rfl⟩
    case round =>
      obtain ⟨k, hk, rfl, rfl, hle, rfl⟩ := hrel
      rcases (by omega : k = 0 ∨ k = 1 ∨ k = 2 ∨ k = 3 ∨ k = 4) with rfl | rfl | rfl | rfl | rfl
      · simp only [pre] at *
        by_cases hlt : x < a
        · have e0 : o = (1, x / 8, x % 8) := by rw [OF.out]; rw [if_pos (by omega)]
          have E0 := Lib.hid e0
          clear e0
          have g1 : ¬ a ≤ x - 0 := by omega
          have g2 : 0 ≤ x - 0 := by omega
          go_wp2_with fail
          go_ret3
          exact ⟨by rw [E0.out]; exact ret_3 (by first | rfl | (dsimp only; omega)) (by first | rfl | (dsimp only; omega)) (by first | rfl | (dsimp only; omega)), P1.out⟩
        · have g1 : a ≤ x - 0 := by omega
          go_wp2_with fail
          go_roundw
          case rel => exact ⟨1, by omega, by first | rfl | simp, by first | rfl | go_num, by first | omega | (simp only [pre]; omega), by first | trivial | rfl⟩
          case measure => simp [intOf]
      · simp only [pre] at *
        by_cases hlt : x < a + b
        · have e0 : o = (2, 0, x - a) := by rw [OF.out]; rw [if_neg (by omega)]; rw [if_pos (by omega)]
          have E0 := Lib.hid e0
          clear e0
          have g1 : ¬ b ≤ x - (a) := by omega
          have g2 : 0 ≤ x - (a) := by omega
          go_wp2_with fail
          go_ret3
          exact ⟨by rw [E0.out]; exact ret_3 (by first | rfl | (dsimp only; omega)) (by first | rfl | (dsimp only; omega)) (by first | rfl | (dsimp only; omega)), P1.out⟩
        · have g1 : b ≤ x - (a) := by omega
          go_wp2_with fail
          go_roundw
          case rel => exact ⟨2, by omega, by first | rfl | simp, by first | rfl | go_num, by first | omega | (simp only [pre]; omega), by first | trivial | rfl⟩
          case measure => simp [intOf]
      · simp only [pre] at *
        by_cases hlt : x < a + b + b
        · have e0 : o = (3, 0, x - a - b) := by rw [OF.out]; rw [if_neg (by omega)]; rw [if_neg (by omega)]; rw [if_pos (by omega)]
          have E0 := Lib.hid e0
          clear e0
          have g1 : ¬ b ≤ x - (a + b) := by omega
          have g2 : 0 ≤ x - (a + b) := by omega
          go_wp2_with fail
          go_ret3
          exact ⟨by rw [E0.out]; exact ret_3 (by first | rfl | (dsimp only; omega)) (by first | rfl | (dsimp only; omega)) (by first | rfl | (dsimp only; omega)), P1.out⟩
        · have g1 : b ≤ x - (a + b) := by omega
          go_wp2_with fail
          go_roundw
          case rel => exact ⟨3, by omega, by first | rfl | simp, by first | rfl | go_num, by first | omega | (simp only [pre]; omega), by first | trivial | rfl⟩
          case measure => simp [intOf]
      · simp only [pre] at *
        by_cases hlt : x < a + b + b + d
        · have e0 : o = (4, 0, x - a - b - b) := by rw [OF.out]; rw [if_neg (by omega)]; rw [if_neg (by omega)]; rw [if_neg (by omega)]; rw [if_pos (by omega)]
          have E0 := Lib.hid e0
          clear e0
          have g1 : ¬ d ≤ x - (a + b + b) := by omega
          have g2 : 0 ≤ x - (a + b + b) := by omega
          go_wp2_with fail
          go_ret3
          exact ⟨by rw [E0.out]; exact ret_3 (by first | rfl | (dsimp only; omega)) (by first | rfl | (dsimp only; omega)) (by first | rfl | (dsimp only; omega)), P1.out⟩
        · have g1 : d ≤ x - (a + b + b) := by omega
          go_wp2_with fail
          go_roundw
          case rel => exact ⟨4, by omega, by first | rfl | simp, by first | rfl | go_num, by first | omega | (simp only [pre]; omega), by first | trivial | rfl⟩
          case measure => simp [intOf]
      · simp only [pre] at *
        have e0 : o = (0, 0, 0) := by rw [OF.out, if_neg (by omega), if_neg (by omega), if_neg (by omega), if_neg (by omega)]
        have E0 := Lib.hid e0
        clear e0
        go_wp2_with fail
        go_ret3
        exact ⟨by rw [E0.out]; rfl, P1.out⟩

end Go.Proofs.Ytdlcfgpmjhcgdaa
