/-
  Chapter 19: first(), OpReads: the walks.
-/
import Derived.Test.YtelkimgcbkmdmaaDoorOr
namespace Go.Proofs.YtelkimgcbkmdmaaDoor
open Go.RowKit

def new1 : O19 := ⟨1, 1, 0, 0, 0, 0, 0⟩
theorem parse_new1 : parseR [110, 101, 119, 32, 49, 32, 48] = some new1 := by kernel_rfl
theorem parse_bad : parseR [110, 101, 119, 32, 32, 49, 32, 48] = none := by kernel_rfl
theorem print_new1 : printL new1 = [110, 101, 119, 32, 49, 32, 48] := by kernel_rfl
theorem new1_ok : new1.Ok := ⟨by decide, by decide, by decide, by decide, by decide, by decide, by decide⟩
theorem c_parse1 (w : World) (he : Env w) : Calls Tryd.prog 5 #[.string { data := #[110, 101, 119, 32, 49, 32, 48] }] w fun e w' => e = .returned (.tuple #[.agg #[.int .i64 1, .int .i64 1, .int .i64 0, .int .i64 0, .int .i64 0, .complex .f64 0 0], .int .i64 0]) ∧ Pure w w' := by
  have h := oparse_any [110, 101, 119, 32, 49, 32, 48] w (by decide) he
  rw [parse_new1] at h
  exact h
theorem c_parse2 (w : World) (he : Env w) : Calls Tryd.prog 5 #[.string { data := #[110, 101, 119, 32, 32, 49, 32, 48] }] w fun e w' => e = .returned (.tuple #[.agg #[.int .i64 0, .int .i64 0, .int .i64 0, .int .i64 0, .int .i64 0, .complex .f64 0 0], .int .i64 2]) ∧ Pure w w' := by
  have h := oparse_any [110, 101, 119, 32, 32, 49, 32, 48] w (by decide) he
  rw [parse_bad] at h
  exact h
theorem c_print1 (w : World) (he : Env w) : Calls Tryd.prog 8 #[.agg #[.int .i64 1, .int .i64 1, .int .i64 0, .int .i64 0, .int .i64 0, .complex .f64 0 0]] w fun e w' => e = .returned (.string { data := #[110, 101, 119, 32, 49, 32, 48] }) ∧ Pure w w' := by
  have h := oprint_any new1 w new1_ok he
  rw [print_new1] at h
  exact h

theorem cells1 {w : World} {X : Nat} (h : w.heap[X]? = some (.cells #[.int .i64 1, .int .i64 1, .int .i64 0, .int .i64 0, .int .i64 0, .complex .f64 0 0] 25 (0, 0))) :
    w.cell? ⟨X, 0, none⟩ = some (.int .i64 1) ∧ w.cell? ⟨X, 1, none⟩ = some (.int .i64 1) ∧ w.cell? ⟨X, 2, none⟩ = some (.int .i64 0) ∧ w.cell? ⟨X, 3, none⟩ = some (.int .i64 0) ∧ w.cell? ⟨X, 4, none⟩ = some (.int .i64 0) ∧ w.cell? ⟨X, 5, none⟩ = some (.complex .f64 0 0) := by
  refine ⟨?_, ?_, ?_, ?_, ?_, ?_⟩ <;> (rw [cell_of_row w X _ _ _ _ h]; rfl)

theorem cx_eq (w : World) : (Op.equalIn 9999 23 (.complex .f64 0 0) (.complex .f64 0 0)).run Tryd.prog w = .ok true w := by kernel_rfl

set_option maxRecDepth 100000 in
theorem first_ok (w : World) (he : Env w) : Calls Tryd.prog 4 #[] w fun e w' => e = .returned (.bool true) ∧ Pure w w' := by
  have HE := Lib.hid he
  clear he
  go_enter Tryd.func4, Tryd.ntmps4
  go_wp2_with fail
  have B1 := heap_alloc_new w (.cells #[.int .i64 1, .int .i64 1, .int .i64 0, .int .i64 0, .int .i64 0, .complex .f64 0 0] 25)
  have P1 := Lib.hid ((Only.refl (fun _ => False) w).alloc (.cells #[.int .i64 1, .int .i64 1, .int .i64 0, .int .i64 0, .int .i64 0, .complex .f64 0 0] 25))
  refine (c_parse1 _ (HE.out.pure P1.out)).mono ?_
  rintro e w1 ⟨rfl, hp1⟩
  have P2 := Lib.hid (Pure.then P1.out hp1)
  have B2 := hp1.blk B1
  have hX : w.heap.size < w1.heap.size := (Array.getElem?_eq_some_iff.1 B2).1
  have HB2 := Lib.hid B2
  clear B1 hp1 B2
  generalize w.heap.size = X at *
  go_wp2_with fail
  have B3 := heap_alloc_new w1 (.cells #[.int .i64 1, .int .i64 1, .int .i64 0, .int .i64 0, .int .i64 0, .complex .f64 0 0] 25)
  have hq := (Only.refl (fun _ => False) w1).alloc (.cells #[.int .i64 1, .int .i64 1, .int .i64 0, .int .i64 0, .int .i64 0, .complex .f64 0 0] 25)
  have B4 := Pure.blk hq HB2.out
  have P3 := Lib.hid (Pure.then P2.out hq)
  clear hq
  refine (c_parse2 _ (HE.out.pure P3.out)).mono ?_
  rintro e w2 ⟨rfl, hp2⟩
  have P4 := Lib.hid (Pure.then P3.out hp2)
  have B5 := Lib.hid (hp2.blk B3)
  have B6 := Lib.hid (hp2.blk B4)
  clear B3 B4 hp2
  generalize w1.heap.size = Y at *
  have hq := (Only.refl (fun _ => False) w2).alloc (.cells #[.int .i64 0, .int .i64 0, .int .i64 0, .int .i64 0, .int .i64 0, .complex .f64 0 0] 25)
  have B7 := Lib.hid (Pure.blk hq B5.out)
  have B8 := Lib.hid (Pure.blk hq B6.out)
  have P5 := Lib.hid (Pure.then P4.out hq)
  clear hq
  obtain ⟨d0, d1, d2, d3, d4, d5⟩ := cells1 B8.out
  go_wp2_with fail
  refine (c_print1 _ (HE.out.pure P5.out)).mono ?_
  rintro e w4 ⟨rfl, hp4⟩
  have P6 := Lib.hid (Pure.then P5.out hp4)
  clear d0 d1 d2 d3 d4 d5
  obtain ⟨d0, d1, d2, d3, d4, d5⟩ := cells1 (hp4.blk B8.out)
  obtain ⟨e0, e1, e2, e3, e4, e5⟩ := cells1 (hp4.blk B7.out)
  clear hp4
  have hcx := cx_eq w4
  go_wp2_with fail
  go_ret
  exact ⟨rfl, P6.out⟩



theorem cells6 {w : World} {X k : Nat} {a b c n : Int} {x y : Nat} (h : w.heap[X]? = some (.cells #[.int .i64 (k : Int), .int .i64 a, .int .i64 b, .int .i64 c, .int .i64 n, .complex .f64 x y] 25 (0, 0))) :
    w.cell? ⟨X, 0, none⟩ = some (.int .i64 k) ∧ w.cell? ⟨X, 1, none⟩ = some (.int .i64 a) ∧ w.cell? ⟨X, 2, none⟩ = some (.int .i64 b) ∧ w.cell? ⟨X, 3, none⟩ = some (.int .i64 c) ∧ w.cell? ⟨X, 4, none⟩ = some (.int .i64 n) ∧ w.cell? ⟨X, 5, none⟩ = some (.complex .f64 x y) := by
  refine ⟨?_, ?_, ?_, ?_, ?_, ?_⟩ <;> (rw [cell_of_row w X _ _ _ _ h]; rfl)
theorem zset {w : World} {X k : Nat} {a b c n : Int} {x y : Nat} (h : w.heap[X]? = some (.cells #[.int .i64 (k : Int), .int .i64 a, .int .i64 b, .int .i64 c, .int .i64 n, .complex .f64 x y] 25 (0, 0))) :
    (w.setCell ⟨X, 5, none⟩ (.complex .f64 0 0)).heap[X]? = some (.cells #[.int .i64 (k : Int), .int .i64 a, .int .i64 b, .int .i64 c, .int .i64 n, .complex .f64 0 0] 25 (0, 0)) := by simp [World.setCell, Array.getElem?_modify, h]

set_option maxRecDepth 100000 in
set_option maxHeartbeats 4000000 in
/-- Where both readings are the same operation. -/
theorem reads_same (l : List UInt8) (w : World) (hl : l.length ≤ 500) (he : Env w) (k : Nat) (a b c n : Int) (x y : Nat) (er : Int) (hr : resV (parseR l) = .tuple #[.agg #[.int .i64 (k : Int), .int .i64 a, .int .i64 b, .int .i64 c, .int .i64 n, .complex .f64 x y], .int .i64 er]) (hx : x < 18446744073709551616) (hy : y < 18446744073709551616) :
    Calls Tryd.prog 3 #[.string (str l)] w fun e w' => e = .returned (.bool true) ∧ Pure w w' := by
  have HE := Lib.hid he
  have hsz := str_size l
  have hA := fun W hW => oparse_any l W hl hW
  have hB := fun W => rparse_any l W hl
  rw [hr] at hA hB
  have HA := Lib.hid hA
  have HB := Lib.hid hB
  have hlen : decide (500 < (l.length : Int)) = false := by simp; omega
  clear he hr hA hB
  go_enter Tryd.func3, Tryd.ntmps3
  go_wp2_with fail
  refine (first_ok _ HE.out).mono ?_
  rintro e w1 ⟨rfl, hp1⟩
  have P1 := Lib.hid hp1
  clear hp1
  go_wp2_with fail
  refine (HA.out _ (HE.out.pure P1.out)).mono ?_
  rintro e w2 ⟨rfl, hp2⟩
  have P2 := Lib.hid (Pure.then P1.out hp2)
  clear hp2
  go_wp2_with fail
  have B3 := heap_alloc_new w2 (.cells #[.int .i64 (k : Int), .int .i64 a, .int .i64 b, .int .i64 c, .int .i64 n, .complex .f64 x y] 25)
  have hq := (Only.refl (fun _ => False) w2).alloc (.cells #[.int .i64 (k : Int), .int .i64 a, .int .i64 b, .int .i64 c, .int .i64 n, .complex .f64 x y] 25)
  have P3 := Lib.hid (Pure.then P2.out hq)
  clear hq
  refine (HB.out _).mono ?_
  rintro e w4 ⟨rfl, hp4⟩
  have P4 := Lib.hid (Pure.then P3.out hp4)
  have B4 := Lib.hid (hp4.blk B3)
  have hX : w.heap.size ≤ w2.heap.size := P2.out.size
  clear B3 hp4 P3
  generalize w2.heap.size = X at *
  have B5 := Lib.hid (heap_alloc_new w4 (.cells #[.int .i64 (k : Int), .int .i64 a, .int .i64 b, .int .i64 c, .int .i64 n, .complex .f64 x y] 25))
  have hq := (Only.refl (fun _ => False) w4).alloc (.cells #[.int .i64 (k : Int), .int .i64 a, .int .i64 b, .int .i64 c, .int .i64 n, .complex .f64 x y] 25)
  have B6 := Lib.hid (Pure.blk hq B4.out)
  have P5 := Lib.hid (Pure.then P4.out hq)
  have hXY : X < w4.heap.size := (Array.getElem?_eq_some_iff.1 B4.out).1
  clear hq
  obtain ⟨-, -, -, -, -, d5⟩ := cells6 B6.out
  obtain ⟨-, -, -, -, -, e5⟩ := cells6 B5.out
  have f5 := frozen_of_row _ X 5 _ _ B6.out
  have g5 := frozen_of_row _ w4.heap.size 5 _ _ B5.out
  go_wp2_with fail
  refine (rbits_any x y _ hx hy).mono ?_
  rintro e w6 ⟨rfl, rfl⟩
  go_wp2_with fail
  refine (rbits_any x y _ hx hy).mono ?_
  rintro e w6 ⟨rfl, rfl⟩
  have hs := (Only.refl (fun k => k = X) w4).setCell (p := ⟨X, 5, none⟩) (fun _ => rfl) (.complex .f64 0 0)
  have P6 := Lib.hid (Only.trans P4.out hs (fun k hk e => absurd hk (by omega)))
  have hz : (w4.setCell ⟨X, 5, none⟩ (.complex .f64 0 0)).heap.size = w4.heap.size := by simp [World.setCell]
  have B7 := Lib.hid (zset B4.out)
  have B8 := heap_alloc_new (w4.setCell ⟨X, 5, none⟩ (.complex .f64 0 0)) (.cells #[.int .i64 (k : Int), .int .i64 a, .int .i64 b, .int .i64 c, .int .i64 n, .complex .f64 0 0] 25)
  rw [hz] at B8
  have hq := (Only.refl (fun _ => False) (w4.setCell ⟨X, 5, none⟩ (.complex .f64 0 0))).alloc (.cells #[.int .i64 (k : Int), .int .i64 a, .int .i64 b, .int .i64 c, .int .i64 n, .complex .f64 0 0] 25)
  have B9 := Pure.blk hq B7.out
  have P7 := Lib.hid (Pure.then P6.out hq)
  have HB8 := Lib.hid B8
  have HB9 := Lib.hid B9
  clear hs hq B8 B9 hz
  go_wp2_with fail
  clear d5 e5 f5 g5
  generalize (w4.setCell ⟨X, 5, none⟩ (.complex .f64 0 0)).alloc (.cells #[.int .i64 (k : Int), .int .i64 a, .int .i64 b, .int .i64 c, .int .i64 n, .complex .f64 0 0] 25) = w8 at *
  refine (first_ok _ (HE.out.pure P7.out)).mono ?_
  rintro e w9 ⟨rfl, hp9⟩
  have P9 := Lib.hid (Pure.then P7.out hp9)
  obtain ⟨d0, d1, d2, d3, d4, d5⟩ := cells6 (hp9.blk HB9.out)
  obtain ⟨e0, e1, e2, e3, e4, e5⟩ := cells6 (hp9.blk HB8.out)
  have hcx := cx_eq w9
  clear hp9
  go_wp2_with fail
  go_ret
  exact ⟨rfl, P9.out⟩

theorem reads_long (l : List UInt8) (w : World) (hl : 500 < l.length) (he : Env w) :
    Calls Tryd.prog 3 #[.string (str l)] w fun e w' => e = .returned (.bool true) ∧ Pure w w' := by
  have HE := Lib.hid he
  have hsz := str_size l
  have hlen : decide (500 < (l.length : Int)) = true := by simp; omega
  clear he
  go_enter Tryd.func3, Tryd.ntmps3
  go_wp2_with fail
  refine (first_ok _ HE.out).mono ?_
  rintro e w1 ⟨rfl, hp1⟩
  have P1 := Lib.hid hp1
  clear hp1
  go_wp2_with fail
  refine (first_ok _ (HE.out.pure P1.out)).mono ?_
  rintro e w2 ⟨rfl, hp2⟩
  have P2 := Lib.hid (Pure.then P1.out hp2)
  clear hp2
  go_wp2_with fail
  go_ret
  exact ⟨rfl, P2.out⟩

theorem reads_any (l : List UInt8) (w : World) (he : Env w) :
    Calls Tryd.prog 3 #[.string (str l)] w fun e w' => e = .returned (.bool true) ∧ Pure w w' := by
  by_cases hl : l.length ≤ 500
  · cases h : parseR l with
    | none => exact reads_same l w hl he 0 0 0 0 0 0 0 2 (by rw [h]; rfl) (by omega) (by omega)
    | some o =>
      have ho := (parse_some l o h).1
      exact reads_same l w hl he o.kind o.a o.b o.c o.n o.x o.y 0 (by rw [h]; rfl) ho.x ho.y
  · exact reads_long l w (by omega) he

end Go.Proofs.YtelkimgcbkmdmaaDoor
