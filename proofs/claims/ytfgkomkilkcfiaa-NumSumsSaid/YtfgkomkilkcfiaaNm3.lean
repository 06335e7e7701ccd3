/-
  NumSums: whole numbers are added and multiplied in any order, in any brackets. For every input.
-/
import Derived.Test.YtfgkomkilkcfiaaNm1
namespace Go.Proofs.Ytfgkomkilkcfiaa.numSums
open Go.RowKit Go.ChangeShapes Go.WideShapes Go.ChangeAt Ieee

/-! ### Plain: complex whole numbers -/
def cmul (z w : Int × Int) : Int × Int := (z.1 * w.1 - z.2 * w.2, z.1 * w.2 + z.2 * w.1)
def cadd (z w : Int × Int) : Int × Int := (z.1 + w.1, z.2 + w.2)
def csub (z w : Int × Int) : Int × Int := (z.1 - w.1, z.2 - w.2)
def Bd (z : Int × Int) (n : Nat) : Prop := z.1.natAbs ≤ n ∧ z.2.natAbs ≤ n
def IsC (re im : Nat) (z : Int × Int) : Prop := IsI re z.1 ∧ IsI im z.2
structure AddIs (a b c d re im : Nat) : Prop where
  re : floatBits .add .f64 a c = some re
  im : floatBits .add .f64 b d = some im
structure SubIs (a b c d re im : Nat) : Prop where
  re : floatBits .sub .f64 a c = some re
  im : floatBits .sub .f64 b d = some im

theorem mul_bd {x y : Int} {m n : Nat} (hx : x.natAbs ≤ m) (hy : y.natAbs ≤ n) : (x * y).natAbs ≤ m * n := by
  rw [Int.natAbs_mul]
  exact Nat.mul_le_mul hx hy
theorem mul_is {a b c d : Nat} {z w : Int × Int} {m n : Nat} (hz : IsC a b z) (hw : IsC c d w) (bz : Bd z m) (bw : Bd w n) (h : 2 * (m * n) < 9007199254740992) :
    ∃ re im, MulIs a b c d re im ∧ IsC re im (cmul z w) ∧ Bd (cmul z w) (2 * (m * n)) := by
  have h1 := mul_bd bz.1 bw.1
  have h2 := mul_bd bz.2 bw.2
  have h3 := mul_bd bz.1 bw.2
  have h4 := mul_bd bz.2 bw.1
  obtain ⟨re, im, hm, i1, i2, _, _⟩ := mulIs_of hz.1 hz.2 hw.1 hw.2 (by omega) (by omega) (by omega) (by omega) (by omega) (by omega)
  exact ⟨re, im, hm, ⟨i1, i2⟩, by simp only [cmul]; omega, by simp only [cmul]; omega⟩
theorem add_is {a b c d : Nat} {z w : Int × Int} {m n : Nat} (hz : IsC a b z) (hw : IsC c d w) (bz : Bd z m) (bw : Bd w n) (h : m + n < 9007199254740992) :
    ∃ re im, AddIs a b c d re im ∧ IsC re im (cadd z w) ∧ Bd (cadd z w) (m + n) := by
  have h1 := bz.1; have h2 := bz.2; have h3 := bw.1; have h4 := bw.2
  obtain ⟨re, e1, i1⟩ := isI_add hz.1 hw.1 (by omega)
  obtain ⟨im, e2, i2⟩ := isI_add hz.2 hw.2 (by omega)
  exact ⟨re, im, ⟨e1, e2⟩, ⟨i1, i2⟩, by simp only [cadd]; omega, by simp only [cadd]; omega⟩
theorem sub_is {a b c d : Nat} {z w : Int × Int} {m n : Nat} (hz : IsC a b z) (hw : IsC c d w) (bz : Bd z m) (bw : Bd w n) (h : m + n < 9007199254740992) :
    ∃ re im, SubIs a b c d re im ∧ IsC re im (csub z w) := by
  have h1 := bz.1; have h2 := bz.2; have h3 := bw.1; have h4 := bw.2
  obtain ⟨re, e1, i1⟩ := isI_sub hz.1 hw.1 (by omega)
  obtain ⟨im, e2, i2⟩ := isI_sub hz.2 hw.2 (by omega)
  exact ⟨re, im, ⟨e1, e2⟩, ⟨i1, i2⟩⟩
theorem eq_is {x y : Nat} {n : Int} (hx : IsI x n) (hy : IsI y n) : (FloatKind.f64.format.order x y == some .eq) = true := by
  rw [isI_order hx hy, compare_self]
  rfl
theorem eq_c {a b c d : Nat} {z w : Int × Int} (hz : IsC a b z) (hw : IsC c d w) (h : z = w) : (FloatKind.f64.format.order a c == some .eq) = true ∧ (FloatKind.f64.format.order b d == some .eq) = true := by
  subst h
  exact ⟨eq_is hz.1 hw.1, eq_is hz.2 hw.2⟩
theorem mul_assoc_c (x y z : Int × Int) : cmul (cmul x y) z = cmul x (cmul y z) := by
  simp only [cmul, Prod.mk.injEq, Int.sub_mul, Int.add_mul, Int.mul_sub, Int.mul_add, Int.mul_assoc]
  omega
theorem add_assoc_c (x y z : Int × Int) : cadd (cadd x y) z = cadd x (cadd y z) := by
  simp only [cadd, Prod.mk.injEq]
  omega
theorem distr_c (x y z : Int × Int) : cmul x (cadd y z) = cadd (cmul x y) (cmul x z) := by
  simp only [cmul, cadd, Prod.mk.injEq, Int.mul_add]
  omega
theorem back_c (x y : Int × Int) : csub (cadd x y) y = x := by
  simp only [csub, cadd]
  ext
  · simp only []; omega
  · simp only []; omega

theorem addc_any (a b c d re im : Nat) (h : AddIs a b c d re im) (w : World) : Calls Try.prog 9 #[.complex .f64 a b, .complex .f64 c d] w fun e w' => e = .returned (.complex .f64 re im) ∧ w = w' := add_any a b c d re im h.re h.im w
theorem subc_any (a b c d re im : Nat) (h : SubIs a b c d re im) (w : World) : Calls Try.prog 11 #[.complex .f64 a b, .complex .f64 c d] w fun e w' => e = .returned (.complex .f64 re im) ∧ w = w' := sub_any a b c d re im h.re h.im w

/-- An argument that is a pair of ints. -/
theorem open_pair {H : Type} {enc : TypeId × Value → H} {W : World} {b0 base : Nat} {v : Value} {d : DataW H} {ps : List MemPlace} {r : Reach}
    (hval : Value.okWide Try.prog W r b0 30 v) (h : DataW.Trod enc Try.prog W base (fun _ => true) true 30 v d ps) : ∃ x : Int × Int, v = .agg #[.int .i64 x.1, .int .i64 x.2] := by
  have hv := hval
  simp only [Value.okWide, Try.underlying30] at hv
  obtain ⟨cs, rfl, hsz, _⟩ := hv
  have hC : Try.prog.cellsOf 30 = 2 := by kernel_rfl
  have k3 : Try.prog.cellsOf 3 = 1 := by kernel_rfl
  rw [hC] at hsz
  obtain ⟨fuel, hf⟩ := h
  obtain ⟨xs, m, _, _, _, hxl, hx⟩ := DataW.trod_array Try.underlying30 hf
  obtain ⟨l⟩ := cs
  match l, hsz, xs, hxl with
  | [c0, c1], _, [y0, y1], _ =>
    have g0 := hx 0 (by omega)
    have g1 := hx 1 (by omega)
    simp [Value.cells, k3] at g0 g1
    obtain ⟨a0, e0, _⟩ := DataW.trod_int Try.underlying3 g0
    obtain ⟨a1, e1, _⟩ := DataW.trod_int Try.underlying3 g1
    injection e0 with e0
    injection e1 with e1
    subst e0; subst e1
    exact ⟨(a0, a1), rfl⟩
theorem open_0 {H : Type} {enc : TypeId × Value → H} {W : World} {b0 base : Nat} {v : Value} {d : DataW H} {ps : List MemPlace} {r : Reach}
    (hval : Value.okWide Try.prog W r b0 30 v) (h : DataW.Trod enc Try.prog W base (fun _ => true) true 30 v d ps) : ∃ x : Int × Int, v = .agg #[.int .i64 x.1, .int .i64 x.2] := open_pair hval h
theorem open_1 {H : Type} {enc : TypeId × Value → H} {W : World} {b0 base : Nat} {v : Value} {d : DataW H} {ps : List MemPlace} {r : Reach}
    (hval : Value.okWide Try.prog W r b0 30 v) (h : DataW.Trod enc Try.prog W base (fun _ => true) true 30 v d ps) : ∃ x : Int × Int, v = .agg #[.int .i64 x.1, .int .i64 x.2] := open_pair hval h
theorem open_2 {H : Type} {enc : TypeId × Value → H} {W : World} {b0 base : Nat} {v : Value} {d : DataW H} {ps : List MemPlace} {r : Reach}
    (hval : Value.okWide Try.prog W r b0 30 v) (h : DataW.Trod enc Try.prog W base (fun _ => true) true 30 v d ps) : ∃ x : Int × Int, v = .agg #[.int .i64 x.1, .int .i64 x.2] := open_pair hval h

theorem three (w : World) (o p q : Obj) : (((w.alloc o).alloc p).alloc q).heap[w.heap.size]? = some o ∧ (((w.alloc o).alloc p).alloc q).heap[w.heap.size + 1]? = some p ∧ (((w.alloc o).alloc p).alloc q).heap[w.heap.size + 2]? = some q := by
  have h1 := heap_alloc_new w o
  have h2 := heap_alloc_new (w.alloc o) p
  have h3 := heap_alloc_new ((w.alloc o).alloc p) q
  have z1 : (w.alloc o).heap.size = w.heap.size + 1 := by simp
  have z2 : ((w.alloc o).alloc p).heap.size = w.heap.size + 2 := by simp
  rw [z1] at h2
  rw [z2] at h3
  have p1 : Pure (w.alloc o) ((w.alloc o).alloc p) := (Only.refl _ _).alloc _
  have p2 : Pure ((w.alloc o).alloc p) (((w.alloc o).alloc p).alloc q) := (Only.refl _ _).alloc _
  exact ⟨((p1.then p2).block _ (by rw [z1]; omega) (fun f => f)).trans h1, (p2.block _ (by rw [z2]; omega) (fun f => f)).trans h2, h3⟩

theorem quiet_l {P : Program} {f : FuncId} {args : Array Value} {w : World} {n : Nat} {v : Value} (h : Calls P f args (w.drewN n) fun e w' => e = .returned v ∧ w.drewN n = w') : Calls P f args (w.drewN n) fun e w'' => e = .returned v ∧ ∃ m, w'' = w.drewN m :=
  h.mono fun _ _ ⟨he, hm⟩ => ⟨he, n, hm.symm⟩
/-- Three complex numbers in block Z. -/
def Thr (w : World) (Z : Nat) (u0 u1 u2 : Value) (w' : World) : Prop := w'.cell? ⟨Z, 0, none⟩ = some u0 ∧ w'.cell? ⟨Z, 1, none⟩ = some u1 ∧ w'.cell? ⟨Z, 2, none⟩ = some u2 ∧ Pure w w'
theorem Thr.keep {w : World} {Z : Nat} {u0 u1 u2 : Value} (a b : World) (h : Thr w Z u0 u1 u2 a) (k : Pure a b) : Thr w Z u0 u1 u2 b := ⟨k.keep h.1, k.keep h.2.1, k.keep h.2.2.1, h.2.2.2.then k⟩
theorem isC_of (z : Int × Int) (h : Bd z 1000) : IsC (floatOfInt .f64 z.1) (floatOfInt .f64 z.2) z := ⟨isI_of _ (by have := h.1; omega), isI_of _ (by have := h.2; omega)⟩

/-- The numbers in block Z: the first k are set. -/
def zarr (x : Nat → Int × Int) (k : Nat) : Array Value :=
  #[if 0 < k then .complex .f64 (floatOfInt .f64 (x 0).1) (floatOfInt .f64 (x 0).2) else .complex .f64 0 0, if 1 < k then .complex .f64 (floatOfInt .f64 (x 1).1) (floatOfInt .f64 (x 1).2) else .complex .f64 0 0,
    if 2 < k then .complex .f64 (floatOfInt .f64 (x 2).1) (floatOfInt .f64 (x 2).2) else .complex .f64 0 0]
def Zs (x : Nat → Int × Int) (Z k : Nat) (w : World) : Prop := w.heap[Z]? = some (.cells (zarr x k) 31 (0, 0))
theorem Zs.set {x : Nat → Int × Int} {Z k : Nat} {w : World} (h : Zs x Z k w) (hk : k < 3) : Zs x Z (k + 1) (w.setCell ⟨Z, k, none⟩ (.complex .f64 (floatOfInt .f64 (x k).1) (floatOfInt .f64 (x k).2))) := by
  unfold Zs at h ⊢
  rcases (by omega : k = 0 ∨ k = 1 ∨ k = 2) with rfl | rfl | rfl <;> simp [World.setCell, Array.getElem?_modify, h, zarr]
theorem Zs.keep {x : Nat → Int × Int} {Z k : Nat} {a b : World} (h : Zs x Z k a) (p : Pure a b) : Zs x Z k b := (p.block Z (Array.getElem?_eq_some_iff.1 h).1 (fun f => f)).trans h
theorem Zs.at_ {x : Nat → Int × Int} {Z k : Nat} {w : World} (h : Zs x Z k w) (hk : k < 3) : (∃ u, w.cell? ⟨Z, k, none⟩ = some u) ∧ w.frozen? ⟨Z, k, none⟩ = false := by
  refine ⟨?_, frozen_of_row w Z k _ _ h⟩
  rw [cell_of_row w Z k _ _ _ h]
  rcases (by omega : k = 0 ∨ k = 1 ∨ k = 2) with rfl | rfl | rfl <;> exact ⟨_, rfl⟩

theorem Zs.cells {x : Nat → Int × Int} {Z : Nat} {w : World} (h : Zs x Z 3 w) :
    w.cell? ⟨Z, 0, none⟩ = some (.complex .f64 (floatOfInt .f64 (x 0).1) (floatOfInt .f64 (x 0).2)) ∧ w.cell? ⟨Z, 1, none⟩ = some (.complex .f64 (floatOfInt .f64 (x 1).1) (floatOfInt .f64 (x 1).2)) ∧ w.cell? ⟨Z, 2, none⟩ = some (.complex .f64 (floatOfInt .f64 (x 2).1) (floatOfInt .f64 (x 2).2)) := by
  refine ⟨?_, ?_, ?_⟩ <;> (rw [cell_of_row w Z _ _ _ _ h]; rfl)

set_option maxRecDepth 100000 in
set_option maxHeartbeats 4000000 in
theorem main (a b c : Int × Int) (w : World) :
    Calls Try.prog 5 #[.agg #[.int .i64 a.1, .int .i64 a.2], .agg #[.int .i64 b.1, .int .i64 b.2], .agg #[.int .i64 c.1, .int .i64 c.2]] w fun e w' => e = .returned (.bool true) ∧ Pure w w' := by
  have hp0 : Pure w (((w.alloc (.cells #[.int .i64 a.1, .int .i64 a.2] 30)).alloc (.cells #[.int .i64 b.1, .int .i64 b.2] 30)).alloc (.cells #[.int .i64 c.1, .int .i64 c.2] 30)) := (((Only.refl _ _).alloc _).alloc _).alloc _
  obtain ⟨a0, a1, b0, b1, c0, c1⟩ : (((w.alloc (.cells #[.int .i64 a.1, .int .i64 a.2] 30)).alloc (.cells #[.int .i64 b.1, .int .i64 b.2] 30)).alloc (.cells #[.int .i64 c.1, .int .i64 c.2] 30)).cell? ⟨w.heap.size, 0, none⟩ = some (.int .i64 a.1) ∧ (((w.alloc (.cells #[.int .i64 a.1, .int .i64 a.2] 30)).alloc (.cells #[.int .i64 b.1, .int .i64 b.2] 30)).alloc (.cells #[.int .i64 c.1, .int .i64 c.2] 30)).cell? ⟨w.heap.size, 1, none⟩ = some (.int .i64 a.2) ∧ (((w.alloc (.cells #[.int .i64 a.1, .int .i64 a.2] 30)).alloc (.cells #[.int .i64 b.1, .int .i64 b.2] 30)).alloc (.cells #[.int .i64 c.1, .int .i64 c.2] 30)).cell? ⟨w.heap.size + 1, 0, none⟩ = some (.int .i64 b.1) ∧ (((w.alloc (.cells #[.int .i64 a.1, .int .i64 a.2] 30)).alloc (.cells #[.int .i64 b.1, .int .i64 b.2] 30)).alloc (.cells #[.int .i64 c.1, .int .i64 c.2] 30)).cell? ⟨w.heap.size + 1, 1, none⟩ = some (.int .i64 b.2) ∧
      (((w.alloc (.cells #[.int .i64 a.1, .int .i64 a.2] 30)).alloc (.cells #[.int .i64 b.1, .int .i64 b.2] 30)).alloc (.cells #[.int .i64 c.1, .int .i64 c.2] 30)).cell? ⟨w.heap.size + 2, 0, none⟩ = some (.int .i64 c.1) ∧ (((w.alloc (.cells #[.int .i64 a.1, .int .i64 a.2] 30)).alloc (.cells #[.int .i64 b.1, .int .i64 b.2] 30)).alloc (.cells #[.int .i64 c.1, .int .i64 c.2] 30)).cell? ⟨w.heap.size + 2, 1, none⟩ = some (.int .i64 c.2) := by
    obtain ⟨t1, t2, t3⟩ := three w (.cells #[.int .i64 a.1, .int .i64 a.2] 30) (.cells #[.int .i64 b.1, .int .i64 b.2] 30) (.cells #[.int .i64 c.1, .int .i64 c.2] 30)
    refine ⟨?_, ?_, ?_, ?_, ?_, ?_⟩
    · rw [cell_of_row _ _ _ _ _ _ t1]; rfl
    · rw [cell_of_row _ _ _ _ _ _ t1]; rfl
    · rw [cell_of_row _ _ _ _ _ _ t2]; rfl
    · rw [cell_of_row _ _ _ _ _ _ t2]; rfl
    · rw [cell_of_row _ _ _ _ _ _ t3]; rfl
    · rw [cell_of_row _ _ _ _ _ _ t3]; rfl
  have P0 := Lib.hid hp0
  have A0 := Lib.hid a0; have A1 := Lib.hid a1; have B0 := Lib.hid b0; have B1 := Lib.hid b1; have C0 := Lib.hid c0; have C1 := Lib.hid c1
  clear hp0 a0 a1 b0 b1 c0 c1
  go_enter Try.func5, Try.ntmps5
  go_wp2_with fail
  generalize ((w.alloc (.cells #[.int .i64 a.1, .int .i64 a.2] 30)).alloc (.cells #[.int .i64 b.1, .int .i64 b.2] 30)).alloc (.cells #[.int .i64 c.1, .int .i64 c.2] 30) = V3 at *
  have HN := Lib.hid (Nat.le_refl w.heap.size)
  refine (first_any _).mono ?_
  rintro e w1 ⟨rfl, hp1⟩
  have P1 := Lib.hid (P0.out.then hp1)
  have hp1z : Pure V3 (w1.alloc (.cells #[.complex .f64 0 0, .complex .f64 0 0, .complex .f64 0 0] 31)) := hp1.alloc _
  have a0 := hp1z.keep A0.out; have a1 := hp1z.keep A1.out; have b0 := hp1z.keep B0.out; have b1 := hp1z.keep B1.out; have c0 := hp1z.keep C0.out; have c1 := hp1z.keep C1.out
  have HZ : Hid (Zs (fun k => if k = 0 then a else if k = 1 then b else c) w1.heap.size 0 ((w1.alloc (.cells #[.complex .f64 0 0, .complex .f64 0 0, .complex .f64 0 0] 31)).alloc (.cells #[.int .i64 a.1, .int .i64 a.2, .int .i64 b.1, .int .i64 b.2, .int .i64 c.1, .int .i64 c.2] 30))) := Lib.hid (((Only.refl (fun _ => False) _).alloc (.cells #[.int .i64 a.1, .int .i64 a.2, .int .i64 b.1, .int .i64 b.2, .int .i64 c.1, .int .i64 c.2] 30)).block w1.heap.size (by simp) (fun f => f) |>.trans (heap_alloc_new w1 (.cells #[.complex .f64 0 0, .complex .f64 0 0, .complex .f64 0 0] 31)))
  have HL := Lib.hid (show ((w1.alloc (.cells #[.complex .f64 0 0, .complex .f64 0 0, .complex .f64 0 0] 31)).alloc (.cells #[.int .i64 a.1, .int .i64 a.2, .int .i64 b.1, .int .i64 b.2, .int .i64 c.1, .int .i64 c.2] 30)).heap[w1.heap.size + 1]? = some (.cells #[.int .i64 a.1, .int .i64 a.2, .int .i64 b.1, .int .i64 b.2, .int .i64 c.1, .int .i64 c.2] 30) from by have h := heap_alloc_new (w1.alloc (.cells #[.complex .f64 0 0, .complex .f64 0 0, .complex .f64 0 0] 31)) (.cells #[.int .i64 a.1, .int .i64 a.2, .int .i64 b.1, .int .i64 b.2, .int .i64 c.1, .int .i64 c.2] 30); simpa using h)
  have P5 := Lib.hid (Only.alloc (Only.alloc P1.out (.cells #[.complex .f64 0 0, .complex .f64 0 0, .complex .f64 0 0] 31)) (.cells #[.int .i64 a.1, .int .i64 a.2, .int .i64 b.1, .int .i64 b.2, .int .i64 c.1, .int .i64 c.2] 30))
  have HB := Lib.hid (show w.heap.size ≤ w1.heap.size from P1.out.size)
  clear hp1 hp1z
  go_wp2_with fail
  generalize (w1.alloc (.cells #[.complex .f64 0 0, .complex .f64 0 0, .complex .f64 0 0] 31)).alloc (.cells #[.int .i64 a.1, .int .i64 a.2, .int .i64 b.1, .int .i64 b.2, .int .i64 c.1, .int .i64 c.2] 30) = W5 at *
  clear a0 a1 b0 b1 c0 c1
  have HL2 : Hid (∀ k, k < 3 → W5.cell? ⟨w1.heap.size + 1, k * 2, none⟩ = some (.int .i64 (if k = 0 then a else if k = 1 then b else c).1) ∧ W5.cell? ⟨w1.heap.size + 1, k * 2 + 1, none⟩ = some (.int .i64 (if k = 0 then a else if k = 1 then b else c).2)) := by
    refine Lib.hid (fun k hk => ?_)
    rw [cell_of_row _ _ _ _ _ _ HL.out, cell_of_row _ _ _ _ _ _ HL.out]
    rcases (by omega : k = 0 ∨ k = 1 ∨ k = 2) with rfl | rfl | rfl <;> exact ⟨rfl, rfl⟩
  obtain ⟨x, hx⟩ : ∃ x : Nat → Int × Int, x = fun k => if k = 0 then a else if k = 1 then b else c := ⟨_, rfl⟩
  have HX := Lib.hid hx
  have HL3 : Hid (∀ k, k < 3 → W5.cell? ⟨w1.heap.size + 1, k * 2, none⟩ = some (.int .i64 (x k).1) ∧ W5.cell? ⟨w1.heap.size + 1, k * 2 + 1, none⟩ = some (.int .i64 (x k).2)) := by subst hx; exact HL2
  rw [← hx] at HZ
  have HB1 := Lib.hid (show w1.heap.size + 1 < W5.heap.size from (Array.getElem?_eq_some_iff.1 HL.out).1)
  clear hx HL2 HL
  generalize w1.heap.size = Z at *
  go_wp2_with fail
  go_loopw [9] (fun i wr => ∃ k : Nat, k ≤ 3 ∧ i = .int .i64 k ∧ (∀ j, j < k → -1000 ≤ (x j).1 ∧ (x j).1 ≤ 1000 ∧ -1000 ≤ (x j).2 ∧ (x j).2 ≤ 1000) ∧ Zs x Z k wr ∧ Only (fun q => q = Z) W5 wr) (fun i _ => 3 - (intOf i).toNat)
  case atStart => exact ⟨0, by omega, by first | rfl | simp, by omega, HZ.out, Only.refl _ _⟩
  case round =>
    obtain ⟨k, hk, rfl, hall, hz, ho⟩ := hrel
    have HALL := Lib.hid hall
    have ZS := Lib.hid hz
    have OO := Lib.hid ho
    have PW := Lib.hid (P5.out.trans ho (fun i hi e => by have := HB.out; omega))
    clear hall hz ho
    by_cases hlt : k < 3
    · obtain ⟨l0, l1⟩ := HL3.out k hlt
      have m0 := (OO.out.cell (p := ⟨Z + 1, k * 2, none⟩) HB1.out (fun e => by simp at e)).trans l0
      have m1 := (OO.out.cell (p := ⟨Z + 1, k * 2 + 1, none⟩) HB1.out (fun e => by simp at e)).trans l1
      clear l0 l1
      obtain ⟨⟨u, hu⟩, hf⟩ := ZS.out.at_ hlt
      have hset := ZS.out.set hlt
      have HSET := Lib.hid hset
      clear hset
      generalize hxk : x k = xk at m0 m1 HSET
      have HXK := Lib.hid hxk
      clear hxk
      obtain ⟨p, q⟩ := xk
      dsimp only at m0 m1 HSET
      rcases (by omega : p < -1000 ∨ (-1000 ≤ p ∧ 1000 < p) ∨ (-1000 ≤ p ∧ p ≤ 1000 ∧ q < -1000) ∨ (-1000 ≤ p ∧ p ≤ 1000 ∧ -1000 ≤ q ∧ 1000 < q) ∨ (-1000 ≤ p ∧ p ≤ 1000 ∧ -1000 ≤ q ∧ q ≤ 1000)) with g | ⟨g0, g⟩ | ⟨g0, g1, g⟩ | ⟨g0, g1, g2, g⟩ | ⟨g0, g1, g2, g3⟩
      case inr.inr.inr.inr =>
        go_wp2_with fail
        have hst := fun (w' : World) => run_store Try.prog w' ⟨Z, k, none⟩ (.complex .f64 (floatOfInt .f64 p) (floatOfInt .f64 q)) .plain rfl
        go_region_held3 (fun w' => w'.cell? ⟨Z + 1, k * 2, none⟩ = some (.int .i64 p) ∧ w'.cell? ⟨Z + 1, k * 2 + 1, none⟩ = some (.int .i64 q)) (go_keep) (fail)
        go_wp2_with fail
        have hset2 := HSET.out
        go_roundw
        case rel =>
          refine ⟨k + 1, by omega, by first | rfl | simp, ?_, ?_, ?_⟩
          · intro j hj
            by_cases e : j < k
            · exact HALL.out j e
            · obtain rfl : j = k := by omega
              rw [HXK.out]
              exact ⟨g0, g1, g2, g3⟩
          · exact (hset2 : Zs x Z (k + 1) (wr.setCell _ _)).keep ((Only.refl _ _).drewN 1)
          · exact (OO.out.setCell (p := ⟨Z, k, none⟩) (fun _ => rfl) _).drewN 1
        case measure => simp [intOf]; omega
      all_goals
        go_wp2_with fail
        refine (first_any _).mono ?_
        rintro e w8 ⟨rfl, hp8⟩
        have P8 := Lib.hid (Pure.then PW.out hp8)
        clear hp8
        go_wp2_with fail
        go_ret
        exact ⟨rfl, P8.out⟩
    · obtain rfl : k = 3 := by omega
      have hb : ∀ j, j < 3 → Bd (x j) 1000 := fun j hj => by have := HALL.out j hj; exact ⟨by omega, by omega⟩
      have b0 := hb 0 (by omega); have b1 := hb 1 (by omega); have b2 := hb 2 (by omega)
      have i0 := isC_of _ b0; have i1 := isC_of _ b1; have i2 := isC_of _ b2
      obtain ⟨y0, y1, y2⟩ := ZS.out.cells
      generalize floatOfInt .f64 (x 0).1 = r0 at *
      generalize floatOfInt .f64 (x 0).2 = s0 at *
      generalize floatOfInt .f64 (x 1).1 = r1 at *
      generalize floatOfInt .f64 (x 1).2 = s1 at *
      generalize floatOfInt .f64 (x 2).1 = r2 at *
      generalize floatOfInt .f64 (x 2).2 = s2 at *
      obtain ⟨ar, ai, hm01, im01, bm01⟩ := mul_is i0 i1 b0 b1 (by omega)
      obtain ⟨br, bi, hm012, im012, bm012⟩ := mul_is im01 i2 bm01 b2 (by omega)
      obtain ⟨cr, ci, hm12, im12, bm12⟩ := mul_is i1 i2 b1 b2 (by omega)
      obtain ⟨dr, di, hm0_12, im0_12, bm0_12⟩ := mul_is i0 im12 b0 bm12 (by omega)
      obtain ⟨er, ei, ha01, ia01, ba01⟩ := add_is i0 i1 b0 b1 (by omega)
      obtain ⟨fr, fi, ha012, ia012, ba012⟩ := add_is ia01 i2 ba01 b2 (by omega)
      obtain ⟨gr, gi, ha12, ia12, ba12⟩ := add_is i1 i2 b1 b2 (by omega)
      obtain ⟨hr, hi, ha0_12, ia0_12, ba0_12⟩ := add_is i0 ia12 b0 ba12 (by omega)
      obtain ⟨kr, ki, hm0a12, im0a12, bm0a12⟩ := mul_is i0 ia12 b0 ba12 (by omega)
      obtain ⟨lr, li, hm02, im02, bm02⟩ := mul_is i0 i2 b0 b2 (by omega)
      obtain ⟨nr, ni, hmm, imm, bmm⟩ := add_is im01 im02 bm01 bm02 (by omega)
      obtain ⟨pr, pi, hsb, isb⟩ := sub_is ia012 i2 ba012 b2 (by omega)
      obtain ⟨t1, t2⟩ := eq_c im012 im0_12 (mul_assoc_c _ _ _)
      obtain ⟨t3, t4⟩ := eq_c ia012 ia0_12 (add_assoc_c _ _ _)
      obtain ⟨t5, t6⟩ := eq_c im0a12 imm (distr_c _ _ _)
      obtain ⟨t7, t8⟩ := eq_c isb ia01 (back_c _ _)
      clear i0 i1 i2 b0 b1 b2 hb im01 bm01 im012 bm012 im12 bm12 im0_12 bm0_12 ia01 ba01 ia012 ba012 ia12 ba12 ia0_12 ba0_12 im0a12 bm0a12 im02 bm02 imm bmm isb
      have H3 : Hid (Thr w Z (.complex .f64 r0 s0) (.complex .f64 r1 s1) (.complex .f64 r2 s2) wr) := Lib.hid ⟨y0, y1, y2, PW.out⟩
      go_wp2_with fail
      go_quiet ((first | (go_at_call 7; exact quiet_l (mul_any _ _ _ _ _ _ (by assumption) _)) | (go_at_call 9; exact quiet_l (addc_any _ _ _ _ _ _ (by assumption) _))))
      go_wp2_with fail
      generalize hW : wr.drewN _ = W6
      have H6 : Hid (Thr w Z (.complex .f64 r0 s0) (.complex .f64 r1 s1) (.complex .f64 r2 s2) W6) := Lib.hid (hW ▸ Thr.keep wr _ H3.out ((Only.refl _ wr).drewN _))
      clear hW y0 y1 y2
      obtain ⟨y0, y1, y2, _⟩ := H6.out
      go_quiet ((first | (go_at_call 7; exact quiet_l (mul_any _ _ _ _ _ _ (by assumption) _)) | (go_at_call 9; exact quiet_l (addc_any _ _ _ _ _ _ (by assumption) _))))
      go_wp2_with fail
      generalize hW : W6.drewN _ = W7
      have H7 : Hid (Thr w Z (.complex .f64 r0 s0) (.complex .f64 r1 s1) (.complex .f64 r2 s2) W7) := Lib.hid (hW ▸ Thr.keep W6 _ H6.out ((Only.refl _ W6).drewN _))
      clear hW y0 y1 y2
      obtain ⟨y0, y1, y2, _⟩ := H7.out
      go_quiet ((first | (go_at_call 7; exact quiet_l (mul_any _ _ _ _ _ _ (by assumption) _)) | (go_at_call 9; exact quiet_l (addc_any _ _ _ _ _ _ (by assumption) _))))
      go_wp2_with fail
      generalize hW : W7.drewN _ = W8
      have H8 : Hid (Thr w Z (.complex .f64 r0 s0) (.complex .f64 r1 s1) (.complex .f64 r2 s2) W8) := Lib.hid (hW ▸ Thr.keep W7 _ H7.out ((Only.refl _ W7).drewN _))
      clear hW y0 y1 y2
      obtain ⟨y0, y1, y2, _⟩ := H8.out
      go_region_held3 (fun w' => w'.cell? ⟨Z, 0, none⟩ = some (.complex .f64 r0 s0) ∧ w'.cell? ⟨Z, 1, none⟩ = some (.complex .f64 r1 s1) ∧ w'.cell? ⟨Z, 2, none⟩ = some (.complex .f64 r2 s2) ∧ Pure w w')
        ((first | assumption | exact Thr.keep W8 W8.drew H8.out ((Only.refl _ W8).drewN 1)))
        (first | (go_at_call 6; refine (withS (by assumption) (Thr.keep (Z := Z)) (first_any _)).mono ?_; rintro e w' ⟨rfl, hs⟩)
               | (go_at_call 9; refine (withS (by assumption) (Thr.keep (Z := Z)) (same_pure (addc_any _ _ _ _ _ _ (by assumption) _))).mono ?_; rintro e w' ⟨rfl, hs⟩)
               | (go_at_call 11; refine (withS (by assumption) (Thr.keep (Z := Z)) (same_pure (subc_any _ _ _ _ _ _ (by assumption) _))).mono ?_; rintro e w' ⟨rfl, hs⟩))
      all_goals
        go_wp2
        go_ret
        exact ⟨rfl, (show Thr w Z (.complex .f64 r0 s0) (.complex .f64 r1 s1) (.complex .f64 r2 s2) _ from by assumption).2.2.2⟩

theorem walk (w : World) (u : Value) (x : Int × Int) (hx : u = .agg #[.int .i64 x.1, .int .i64 x.2]) (v : Value) (y : Int × Int) (hy : v = .agg #[.int .i64 y.1, .int .i64 y.2]) (t : Value) (z : Int × Int) (hz : t = .agg #[.int .i64 z.1, .int .i64 z.2]) :
    Calls Try.prog 5 #[u, v, t] w fun e w' => e = .returned (.bool true) ∧ Pure w w' := by
  subst hx; subst hy; subst hz
  exact main x y z w

set_option maxRecDepth 100000 in
theorem lifted (os : Os) (started : os.Started) (H : Type) (enc : TypeId × Value → H) :
    ReturnsInHanded {} Try.checked os 5 .any (Rows.numSumsSpec.pre6 enc Try.prog Try.f5 Rows.numSumsRow.domain false) (Rows.numSumsSpec.post enc Try.prog Try.f5 false true false false) :=
  lift_law (C := Try.checked) own started (by kernel_rfl) Try.func5 laidOut (by kernel_rfl) rfl rfl Try.underlying4
    (fun ds h => by match ds, h with | [_, _, _], _ => rfl)
    (ChangeSpec.witness6 (enc := enc) (C := Try.checked) false ⟨#[], #[.agg #[.int .i64 0, .int .i64 0], .agg #[.int .i64 0, .int .i64 0], .agg #[.int .i64 0, .int .i64 0]], []⟩ 8 (by kernel_rfl) (by kernel_rfl) (by kernel_rfl) (by kernel_rfl))
    (fun W base args ds ps hval hA hlt => by
      have hA' : DataW.TrodAll enc Try.prog W 0 (fun _ => true) true Try.f5.params.toList args.toList ds ps := hA
      rw [Try.params5] at hA'
      have hval' : ∀ (j : Nat) t v, Try.f5.params[j]? = some t → args[j]? = some v → Value.okWide Try.prog W .any base t v := hval
      rw [Try.params5] at hval'
      obtain ⟨v0, vs0, d0, ds0, p0, q0, hargs, rfl, rfl, h0, r0⟩ := trodAll_cons hA'
      obtain ⟨v1, vs1, d1, ds1, p1, q1, rfl, rfl, rfl, h1, r1⟩ := trodAll_cons r0
      obtain ⟨v2, vs2, d2, ds2, p2, q2, rfl, rfl, rfl, h2, r2⟩ := trodAll_cons r1
      obtain ⟨rfl, rfl, rfl⟩ := trodAll_nil r2
      obtain rfl : args = #[v0, v1, v2] := by cases args; simp_all
      obtain ⟨x0, s0⟩ := open_0 (hval' 0 30 v0 rfl rfl) h0
      obtain ⟨x1, s1⟩ := open_1 (hval' 1 30 v1 rfl rfl) h1
      obtain ⟨x2, s2⟩ := open_2 (hval' 2 30 v2 rfl rfl) h2
      exact (walk W _ x0 s0 _ x1 s1 _ x2 s2).mono fun e W' ⟨he, hp⟩ => ⟨he, hp.below⟩)

/-- The statement. -/
theorem proved : Rows.NumSumsSaid :=
  OpenClaim.holds_of_wide 5 Try.f5 rfl rfl rfl rfl rfl rfl rfl ⟨rfl, rfl, rfl, rfl, rfl⟩ rfl rfl rfl rfl rfl (by kernel_rfl) Try.func5 (by kernel_rfl)
    (of_decide_eq_true (by kernel_rfl)) (by unfold Func.isWrapper; first | (rw [if_pos (by decide +kernel)]; kernel_rfl) | (rw [if_neg (by decide +kernel)]; exact ⟨rfl, rfl⟩))
    (fun os started H enc _ => lifted os started H enc)
#print axioms proved

end Go.Proofs.Ytfgkomkilkcfiaa.numSums
