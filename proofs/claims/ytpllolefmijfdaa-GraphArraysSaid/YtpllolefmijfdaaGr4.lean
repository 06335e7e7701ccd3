/-
  The contracts of operands and of what it asks with.
-/
import Derived.Test.YtpllolefmijfdaaGr3
namespace Go.Proofs.Ytpllolefmijfdaa
open Go.RowKit

/-- The value v is a slice of values that reads as l. -/
def VlS (w : World) (v : Value) (l : List Vl) : Prop :=
  ∃ (A : Option Addr) (c : Nat), v = .slice A l.length c ∧ (0 < l.length → ∃ b off, A = some ⟨b, off, none⟩ ∧ ∀ j u, l[j]? = some u → w.cell? ⟨b, off + j * 2, none⟩ = some (.bool u.r) ∧ w.cell? ⟨b, off + j * 2 + 1, none⟩ = some (.complex .f64 u.x u.y))
theorem VlS.pure {w w' : World} {v : Value} {l : List Vl} (h : VlS w v l) (hp : Pure w w') : VlS w' v l := by
  obtain ⟨A, c, rfl, h1⟩ := h
  refine ⟨A, c, rfl, fun hp0 => ?_⟩
  obtain ⟨b, off, rfl, h2⟩ := h1 hp0
  exact ⟨b, off, rfl, fun j u hu => ⟨hp.keep (h2 j u hu).1, hp.keep (h2 j u hu).2⟩⟩
theorem VlS.nil (w : World) : VlS w (.slice none 0 0) [] := ⟨none, 0, rfl, fun h => absurd h (by simp)⟩
theorem VlS.one (w : World) (u : Vl) (T : TypeId) : VlS (w.alloc (.cells #[.bool u.r, .complex .f64 u.x u.y] T)) (.slice (some ⟨w.heap.size, 0, none⟩) 1 1) [u] := by
  have hb := heap_alloc_new w (.cells #[.bool u.r, .complex .f64 u.x u.y] T)
  refine ⟨_, _, rfl, fun _ => ⟨_, 0, rfl, fun j x hx => ?_⟩⟩
  obtain rfl : j = 0 := by
    cases j with
    | zero => rfl
    | succ j => simp at hx
  simp at hx
  subst hx
  constructor <;> (rw [cell_of_row _ _ _ _ _ _ hb]; rfl)

/-- A value of another sort than is asked for? -/
theorem clo1_any (u : Vl) (R : Nat) (b : Bool) (w : World) (hR : w.cell? ⟨R, 0, none⟩ = some (.bool b)) :
    Calls Try.prog 50 #[vlV u, .pointer (some ⟨R, 0, none⟩)] w fun e w' => e = .returned (.bool (u.r != b)) ∧ Pure w w' := by
  have hp := (Only.refl (fun _ => False) w).alloc (.cells #[.bool u.r, .complex .f64 u.x u.y] 34)
  have h2 := Pure.keep hp hR
  have P0 := Lib.hid hp
  clear hp
  go_enter Try.func50, Try.ntmps50
  go_wp2_with fail
  go_ret
  exact ⟨rfl, P0.out⟩

/-- A reference to nothing? -/
theorem clo2_any (u : Vl) (w : World) :
    Calls Try.prog 51 #[vlV u] w fun e w' => e = .returned (.bool (sameB u.x u.y 0 4607182418800017408)) ∧ Pure w w' := by
  have hp := (Only.refl (fun _ => False) w).alloc (.cells #[.bool u.r, .complex .f64 u.x u.y] 34)
  have P0 := Lib.hid hp
  clear hp
  go_enter Try.func51, Try.ntmps51
  go_wp2_with fail
  go_quiet ((first | (go_at_call 40; exact Calls.quiet_of_same ((none_any _).mono fun _ _ h => ⟨h.1, h.2.symm⟩)) | (go_at_call 42; exact Calls.quiet_of_same ((same_any _ _ _ _ _).mono fun _ _ h => ⟨h.1, h.2.symm⟩))))
  go_wp2_with fail
  go_ret
  exact ⟨rfl, P0.out.drewN _⟩

theorem idx1_no (R : Nat) (b : Bool) (v : Value) (l : List Vl) (w : World) (hl : VlS w v l) (hn : l.length ≤ 2) (hno : ∀ u ∈ l, (u.r != b) = false) (hR : w.cell? ⟨R, 0, none⟩ = some (.bool b)) :
    Calls Try.prog 61 #[v, .func (.func 50) #[] #[.pointer (some ⟨R, 0, none⟩)]] w fun e w' => e = .returned (.int .i64 (-1)) ∧ Pure w w' := by
  obtain ⟨A, cc, rfl, h3⟩ := hl
  have H3 := Lib.hid h3
  have HNO := Lib.hid hno
  have HR := Lib.hid hR
  clear h3 hno hR
  go_enter Try.func61, Try.ntmps61
  go_wp2_with fail
  go_loopw [8] (fun i wr => ∃ k : Nat, k ≤ l.length ∧ i = .int .i64 k ∧ Pure w wr) (fun i _ => l.length - (intOf i).toNat)
  case atStart => exact ⟨0, Nat.zero_le _, rfl, Only.refl _ _⟩
  case round =>
    obtain ⟨k, hk, rfl, hp⟩ := hrel
    have HP := Lib.hid hp
    clear hp
    by_cases hlt : k < l.length
    · obtain ⟨b0, off, hA, hc⟩ := H3.out (by omega)
      subst hA
      obtain ⟨u, hs⟩ : ∃ u, l[k]? = some u := ⟨l[k], List.getElem?_eq_getElem hlt⟩
      obtain ⟨c1, c2⟩ := hc k u hs
      have c1' := HP.out.keep c1
      have c2' := HP.out.keep c2
      have HM := Lib.hid (HNO.out u (List.mem_of_getElem? hs))
      clear hc c1 c2 hs
      go_wp2_with fail
      refine (clo1_any u R b _ (HP.out.keep HR.out)).mono ?_
      rw [HM.out]
      rintro e w1 ⟨rfl, hp1⟩
      have P1 := Lib.hid (HP.out.then hp1)
      clear hp1
      go_wp2_with fail
      go_roundw
      case rel => exact ⟨k + 1, by omega, by first | rfl | simp, P1.out⟩
      case measure => simp [intOf]; omega
    · obtain rfl : k = l.length := by omega
      go_wp2_with fail
      go_ret
      exact ⟨rfl, HP.out⟩

theorem has1_no (R : Nat) (b : Bool) (v : Value) (l : List Vl) (w : World) (hl : VlS w v l) (hn : l.length ≤ 2) (hno : ∀ u ∈ l, (u.r != b) = false) (hR : w.cell? ⟨R, 0, none⟩ = some (.bool b)) :
    Calls Try.prog 49 #[v, .func (.func 50) #[] #[.pointer (some ⟨R, 0, none⟩)]] w fun e w' => e = .returned (.bool false) ∧ Pure w w' := by
  have HL := Lib.hid hl
  have HNO := Lib.hid hno
  have HR := Lib.hid hR
  clear hl hno hR
  go_enter Try.func49, Try.ntmps49
  go_wp2_with fail
  refine (idx1_no R b v l _ HL.out hn HNO.out HR.out).mono ?_
  rintro e w1 ⟨rfl, hp1⟩
  have P1 := Lib.hid hp1
  clear hp1
  go_wp2_with fail
  go_ret
  exact ⟨rfl, P1.out⟩

theorem idx2_no (v : Value) (l : List Vl) (w : World) (hl : VlS w v l) (hn : l.length ≤ 2) (hno : ∀ u ∈ l, sameB u.x u.y 0 4607182418800017408 = false) :
    Calls Try.prog 61 #[v, .func (.func 51) #[] #[]] w fun e w' => e = .returned (.int .i64 (-1)) ∧ Pure w w' := by
  obtain ⟨A, cc, rfl, h3⟩ := hl
  have H3 := Lib.hid h3
  have HNO := Lib.hid hno
  skip
  clear h3 hno 
  go_enter Try.func61, Try.ntmps61
  go_wp2_with fail
  go_loopw [8] (fun i wr => ∃ k : Nat, k ≤ l.length ∧ i = .int .i64 k ∧ Pure w wr) (fun i _ => l.length - (intOf i).toNat)
  case atStart => exact ⟨0, Nat.zero_le _, rfl, Only.refl _ _⟩
  case round =>
    obtain ⟨k, hk, rfl, hp⟩ := hrel
    have HP := Lib.hid hp
    clear hp
    by_cases hlt : k < l.length
    · obtain ⟨b0, off, hA, hc⟩ := H3.out (by omega)
      subst hA
      obtain ⟨u, hs⟩ : ∃ u, l[k]? = some u := ⟨l[k], List.getElem?_eq_getElem hlt⟩
      obtain ⟨c1, c2⟩ := hc k u hs
      have c1' := HP.out.keep c1
      have c2' := HP.out.keep c2
      have HM := Lib.hid (HNO.out u (List.mem_of_getElem? hs))
      clear hc c1 c2 hs
      go_wp2_with fail
      refine (clo2_any u _).mono ?_
      rw [HM.out]
      rintro e w1 ⟨rfl, hp1⟩
      have P1 := Lib.hid (HP.out.then hp1)
      clear hp1
      go_wp2_with fail
      go_roundw
      case rel => exact ⟨k + 1, by omega, by first | rfl | simp, P1.out⟩
      case measure => simp [intOf]; omega
    · obtain rfl : k = l.length := by omega
      go_wp2_with fail
      go_ret
      exact ⟨rfl, HP.out⟩

theorem has2_no (v : Value) (l : List Vl) (w : World) (hl : VlS w v l) (hn : l.length ≤ 2) (hno : ∀ u ∈ l, sameB u.x u.y 0 4607182418800017408 = false) :
    Calls Try.prog 49 #[v, .func (.func 51) #[] #[]] w fun e w' => e = .returned (.bool false) ∧ Pure w w' := by
  have HL := Lib.hid hl
  have HNO := Lib.hid hno
  skip
  clear hl hno 
  go_enter Try.func49, Try.ntmps49
  go_wp2_with fail
  refine (idx2_no v l _ HL.out hn HNO.out).mono ?_
  rintro e w1 ⟨rfl, hp1⟩
  have P1 := Lib.hid hp1
  clear hp1
  go_wp2_with fail
  go_ret
  exact ⟨rfl, P1.out⟩

/-- Operations that look at no operand first. -/
theorem operands_nil (o : Op20) (v : Value) (w : World) (hk : (o.kind = 1 ∨ o.kind = 2 ∨ o.kind = 13 ∨ o.kind = 14 ∨ o.kind = 18)) :
    Calls Try.prog 33 #[opV o, v] w fun e w' => e = .returned (.int .i64 0) ∧ Pure w w' := by
  obtain ⟨k, a, b, c, n, x, y⟩ := o
  dsimp only at *
  rcases hk with rfl | rfl | rfl | rfl | rfl
  · have hp2 : Pure w ((w.alloc (.cells #[.int .i64 (1), .int .i64 a, .int .i64 b, .int .i64 c, .int .i64 n, .complex .f64 x y] 38)).alloc (.cells #[.bool true] 4)) := ((Only.refl _ _).alloc _).alloc _
    have hop := Pure.blk ((Only.refl (fun _ => False) _).alloc (.cells #[.bool true] 4)) (heap_alloc_new w (.cells #[.int .i64 (1), .int .i64 a, .int .i64 b, .int .i64 c, .int .i64 n, .complex .f64 x y] 38))
    have hrf := heap_alloc_new (w.alloc (.cells #[.int .i64 (1), .int .i64 a, .int .i64 b, .int .i64 c, .int .i64 n, .complex .f64 x y] 38)) (.cells #[.bool true] 4)
    rw [show (w.alloc (.cells #[.int .i64 (1), .int .i64 a, .int .i64 b, .int .i64 c, .int .i64 n, .complex .f64 x y] 38)).heap.size = w.heap.size + 1 from by simp] at hrf
    have hr0 : ((w.alloc (.cells #[.int .i64 (1), .int .i64 a, .int .i64 b, .int .i64 c, .int .i64 n, .complex .f64 x y] 38)).alloc (.cells #[.bool true] 4)).cell? ⟨w.heap.size + 1, 0, none⟩ = some (.bool true) := by rw [cell_of_row _ _ _ _ _ _ hrf]; rfl
    have hs2 : ((w.alloc (.cells #[.int .i64 (1), .int .i64 a, .int .i64 b, .int .i64 c, .int .i64 n, .complex .f64 x y] 38)).alloc (.cells #[.bool true] 4)).heap.size = w.heap.size + 2 := by simp
    obtain ⟨o0, o1, o2, -, -, -⟩ := op6 hop
    have P2 := Lib.hid hp2
    have R2 := Lib.hid hr0
    have S2 := Lib.hid hs2
    clear hp2 hop hrf hr0 hs2
    go_enter Try.func33, Try.ntmps33
    go_wp2_with fail
    refine (has1_no (w.heap.size + 1) true (.slice none 0 0) [] _ (VlS.nil _) (by simp) (by simp) R2.out).mono ?_
    rintro e w3 ⟨rfl, hp3⟩
    have P3 := Lib.hid (Pure.then P2.out hp3)
    clear hp3
    go_wp2_with fail
    refine (has2_no (.slice none 0 0) [] _ (VlS.nil _) (by simp) (by simp)).mono ?_
    rintro e w4 ⟨rfl, hp4⟩
    have P4 := Lib.hid (Pure.then P3.out hp4)
    clear hp4
    go_wp2_with fail
    go_ret
    exact ⟨rfl, P4.out⟩
  · have hp2 : Pure w ((w.alloc (.cells #[.int .i64 (2), .int .i64 a, .int .i64 b, .int .i64 c, .int .i64 n, .complex .f64 x y] 38)).alloc (.cells #[.bool true] 4)) := ((Only.refl _ _).alloc _).alloc _
    have hop := Pure.blk ((Only.refl (fun _ => False) _).alloc (.cells #[.bool true] 4)) (heap_alloc_new w (.cells #[.int .i64 (2), .int .i64 a, .int .i64 b, .int .i64 c, .int .i64 n, .complex .f64 x y] 38))
    have hrf := heap_alloc_new (w.alloc (.cells #[.int .i64 (2), .int .i64 a, .int .i64 b, .int .i64 c, .int .i64 n, .complex .f64 x y] 38)) (.cells #[.bool true] 4)
    rw [show (w.alloc (.cells #[.int .i64 (2), .int .i64 a, .int .i64 b, .int .i64 c, .int .i64 n, .complex .f64 x y] 38)).heap.size = w.heap.size + 1 from by simp] at hrf
    have hr0 : ((w.alloc (.cells #[.int .i64 (2), .int .i64 a, .int .i64 b, .int .i64 c, .int .i64 n, .complex .f64 x y] 38)).alloc (.cells #[.bool true] 4)).cell? ⟨w.heap.size + 1, 0, none⟩ = some (.bool true) := by rw [cell_of_row _ _ _ _ _ _ hrf]; rfl
    have hs2 : ((w.alloc (.cells #[.int .i64 (2), .int .i64 a, .int .i64 b, .int .i64 c, .int .i64 n, .complex .f64 x y] 38)).alloc (.cells #[.bool true] 4)).heap.size = w.heap.size + 2 := by simp
    obtain ⟨o0, o1, o2, -, -, -⟩ := op6 hop
    have P2 := Lib.hid hp2
    have R2 := Lib.hid hr0
    have S2 := Lib.hid hs2
    clear hp2 hop hrf hr0 hs2
    go_enter Try.func33, Try.ntmps33
    go_wp2_with fail
    refine (has1_no (w.heap.size + 1) true (.slice none 0 0) [] _ (VlS.nil _) (by simp) (by simp) R2.out).mono ?_
    rintro e w3 ⟨rfl, hp3⟩
    have P3 := Lib.hid (Pure.then P2.out hp3)
    clear hp3
    go_wp2_with fail
    refine (has2_no (.slice none 0 0) [] _ (VlS.nil _) (by simp) (by simp)).mono ?_
    rintro e w4 ⟨rfl, hp4⟩
    have P4 := Lib.hid (Pure.then P3.out hp4)
    clear hp4
    go_wp2_with fail
    go_ret
    exact ⟨rfl, P4.out⟩
  · have hp2 : Pure w ((w.alloc (.cells #[.int .i64 (13), .int .i64 a, .int .i64 b, .int .i64 c, .int .i64 n, .complex .f64 x y] 38)).alloc (.cells #[.bool true] 4)) := ((Only.refl _ _).alloc _).alloc _
    have hop := Pure.blk ((Only.refl (fun _ => False) _).alloc (.cells #[.bool true] 4)) (heap_alloc_new w (.cells #[.int .i64 (13), .int .i64 a, .int .i64 b, .int .i64 c, .int .i64 n, .complex .f64 x y] 38))
    have hrf := heap_alloc_new (w.alloc (.cells #[.int .i64 (13), .int .i64 a, .int .i64 b, .int .i64 c, .int .i64 n, .complex .f64 x y] 38)) (.cells #[.bool true] 4)
    rw [show (w.alloc (.cells #[.int .i64 (13), .int .i64 a, .int .i64 b, .int .i64 c, .int .i64 n, .complex .f64 x y] 38)).heap.size = w.heap.size + 1 from by simp] at hrf
    have hr0 : ((w.alloc (.cells #[.int .i64 (13), .int .i64 a, .int .i64 b, .int .i64 c, .int .i64 n, .complex .f64 x y] 38)).alloc (.cells #[.bool true] 4)).cell? ⟨w.heap.size + 1, 0, none⟩ = some (.bool true) := by rw [cell_of_row _ _ _ _ _ _ hrf]; rfl
    have hs2 : ((w.alloc (.cells #[.int .i64 (13), .int .i64 a, .int .i64 b, .int .i64 c, .int .i64 n, .complex .f64 x y] 38)).alloc (.cells #[.bool true] 4)).heap.size = w.heap.size + 2 := by simp
    obtain ⟨o0, o1, o2, -, -, -⟩ := op6 hop
    have P2 := Lib.hid hp2
    have R2 := Lib.hid hr0
    have S2 := Lib.hid hs2
    clear hp2 hop hrf hr0 hs2
    go_enter Try.func33, Try.ntmps33
    go_wp2_with fail
    refine (has1_no (w.heap.size + 1) true (.slice none 0 0) [] _ (VlS.nil _) (by simp) (by simp) R2.out).mono ?_
    rintro e w3 ⟨rfl, hp3⟩
    have P3 := Lib.hid (Pure.then P2.out hp3)
    clear hp3
    go_wp2_with fail
    refine (has2_no (.slice none 0 0) [] _ (VlS.nil _) (by simp) (by simp)).mono ?_
    rintro e w4 ⟨rfl, hp4⟩
    have P4 := Lib.hid (Pure.then P3.out hp4)
    clear hp4
    go_wp2_with fail
    go_ret
    exact ⟨rfl, P4.out⟩
  · have hp2 : Pure w ((w.alloc (.cells #[.int .i64 (14), .int .i64 a, .int .i64 b, .int .i64 c, .int .i64 n, .complex .f64 x y] 38)).alloc (.cells #[.bool true] 4)) := ((Only.refl _ _).alloc _).alloc _
    have hop := Pure.blk ((Only.refl (fun _ => False) _).alloc (.cells #[.bool true] 4)) (heap_alloc_new w (.cells #[.int .i64 (14), .int .i64 a, .int .i64 b, .int .i64 c, .int .i64 n, .complex .f64 x y] 38))
    have hrf := heap_alloc_new (w.alloc (.cells #[.int .i64 (14), .int .i64 a, .int .i64 b, .int .i64 c, .int .i64 n, .complex .f64 x y] 38)) (.cells #[.bool true] 4)
    rw [show (w.alloc (.cells #[.int .i64 (14), .int .i64 a, .int .i64 b, .int .i64 c, .int .i64 n, .complex .f64 x y] 38)).heap.size = w.heap.size + 1 from by simp] at hrf
    have hr0 : ((w.alloc (.cells #[.int .i64 (14), .int .i64 a, .int .i64 b, .int .i64 c, .int .i64 n, .complex .f64 x y] 38)).alloc (.cells #[.bool true] 4)).cell? ⟨w.heap.size + 1, 0, none⟩ = some (.bool true) := by rw [cell_of_row _ _ _ _ _ _ hrf]; rfl
    have hs2 : ((w.alloc (.cells #[.int .i64 (14), .int .i64 a, .int .i64 b, .int .i64 c, .int .i64 n, .complex .f64 x y] 38)).alloc (.cells #[.bool true] 4)).heap.size = w.heap.size + 2 := by simp
    obtain ⟨o0, o1, o2, -, -, -⟩ := op6 hop
    have P2 := Lib.hid hp2
    have R2 := Lib.hid hr0
    have S2 := Lib.hid hs2
    clear hp2 hop hrf hr0 hs2
    go_enter Try.func33, Try.ntmps33
    go_wp2_with fail
    refine (has1_no (w.heap.size + 1) true (.slice none 0 0) [] _ (VlS.nil _) (by simp) (by simp) R2.out).mono ?_
    rintro e w3 ⟨rfl, hp3⟩
    have P3 := Lib.hid (Pure.then P2.out hp3)
    clear hp3
    go_wp2_with fail
    refine (has2_no (.slice none 0 0) [] _ (VlS.nil _) (by simp) (by simp)).mono ?_
    rintro e w4 ⟨rfl, hp4⟩
    have P4 := Lib.hid (Pure.then P3.out hp4)
    clear hp4
    go_wp2_with fail
    go_ret
    exact ⟨rfl, P4.out⟩
  · have hp2 : Pure w ((w.alloc (.cells #[.int .i64 (18), .int .i64 a, .int .i64 b, .int .i64 c, .int .i64 n, .complex .f64 x y] 38)).alloc (.cells #[.bool true] 4)) := ((Only.refl _ _).alloc _).alloc _
    have hop := Pure.blk ((Only.refl (fun _ => False) _).alloc (.cells #[.bool true] 4)) (heap_alloc_new w (.cells #[.int .i64 (18), .int .i64 a, .int .i64 b, .int .i64 c, .int .i64 n, .complex .f64 x y] 38))
    have hrf := heap_alloc_new (w.alloc (.cells #[.int .i64 (18), .int .i64 a, .int .i64 b, .int .i64 c, .int .i64 n, .complex .f64 x y] 38)) (.cells #[.bool true] 4)
    rw [show (w.alloc (.cells #[.int .i64 (18), .int .i64 a, .int .i64 b, .int .i64 c, .int .i64 n, .complex .f64 x y] 38)).heap.size = w.heap.size + 1 from by simp] at hrf
    have hr0 : ((w.alloc (.cells #[.int .i64 (18), .int .i64 a, .int .i64 b, .int .i64 c, .int .i64 n, .complex .f64 x y] 38)).alloc (.cells #[.bool true] 4)).cell? ⟨w.heap.size + 1, 0, none⟩ = some (.bool true) := by rw [cell_of_row _ _ _ _ _ _ hrf]; rfl
    have hs2 : ((w.alloc (.cells #[.int .i64 (18), .int .i64 a, .int .i64 b, .int .i64 c, .int .i64 n, .complex .f64 x y] 38)).alloc (.cells #[.bool true] 4)).heap.size = w.heap.size + 2 := by simp
    obtain ⟨o0, o1, o2, -, -, -⟩ := op6 hop
    have P2 := Lib.hid hp2
    have R2 := Lib.hid hr0
    have S2 := Lib.hid hs2
    clear hp2 hop hrf hr0 hs2
    go_enter Try.func33, Try.ntmps33
    go_wp2_with fail
    refine (has1_no (w.heap.size + 1) true (.slice none 0 0) [] _ (VlS.nil _) (by simp) (by simp) R2.out).mono ?_
    rintro e w3 ⟨rfl, hp3⟩
    have P3 := Lib.hid (Pure.then P2.out hp3)
    clear hp3
    go_wp2_with fail
    refine (has2_no (.slice none 0 0) [] _ (VlS.nil _) (by simp) (by simp)).mono ?_
    rintro e w4 ⟨rfl, hp4⟩
    have P4 := Lib.hid (Pure.then P3.out hp4)
    clear hp4
    go_wp2_with fail
    go_ret
    exact ⟨rfl, P4.out⟩

/-- Operations that look into what B refers to. -/
theorem operands_b (o : Op20) (l : List Vl) (u : Vl) (lb j : Nat) (w : World) (hk : (o.kind = 5 ∨ o.kind = 10 ∨ o.kind = 11)) (hl : w.heap[lb]? = some (.cells (vcs l).toArray 34 (0, 0))) (hu : l[j]? = some u) (hj : o.b = j) (hr : u.r = true) (hno : sameB u.x u.y 0 4607182418800017408 = false) (_hlen : l.length ≤ 1000000) :
    Calls Try.prog 33 #[opV o, .slice (some ⟨lb, 0, none⟩) l.length l.length] w fun e w' => e = .returned (.int .i64 0) ∧ Pure w w' := by
  obtain ⟨k, a, b, c, n, x, y⟩ := o
  dsimp only at *
  obtain rfl := hj
  rcases hk with rfl | rfl | rfl
  · have hp2 : Pure w ((w.alloc (.cells #[.int .i64 (5), .int .i64 a, .int .i64 ((j : Nat) : Int), .int .i64 c, .int .i64 n, .complex .f64 x y] 38)).alloc (.cells #[.bool true] 4)) := ((Only.refl _ _).alloc _).alloc _
    have hop := Pure.blk ((Only.refl (fun _ => False) _).alloc (.cells #[.bool true] 4)) (heap_alloc_new w (.cells #[.int .i64 (5), .int .i64 a, .int .i64 ((j : Nat) : Int), .int .i64 c, .int .i64 n, .complex .f64 x y] 38))
    have hrf := heap_alloc_new (w.alloc (.cells #[.int .i64 (5), .int .i64 a, .int .i64 ((j : Nat) : Int), .int .i64 c, .int .i64 n, .complex .f64 x y] 38)) (.cells #[.bool true] 4)
    rw [show (w.alloc (.cells #[.int .i64 (5), .int .i64 a, .int .i64 ((j : Nat) : Int), .int .i64 c, .int .i64 n, .complex .f64 x y] 38)).heap.size = w.heap.size + 1 from by simp] at hrf
    have hr0 : ((w.alloc (.cells #[.int .i64 (5), .int .i64 a, .int .i64 ((j : Nat) : Int), .int .i64 c, .int .i64 n, .complex .f64 x y] 38)).alloc (.cells #[.bool true] 4)).cell? ⟨w.heap.size + 1, 0, none⟩ = some (.bool true) := by rw [cell_of_row _ _ _ _ _ _ hrf]; rfl
    have hs2 : ((w.alloc (.cells #[.int .i64 (5), .int .i64 a, .int .i64 ((j : Nat) : Int), .int .i64 c, .int .i64 n, .complex .f64 x y] 38)).alloc (.cells #[.bool true] 4)).heap.size = w.heap.size + 2 := by simp
    obtain ⟨o0, o1, o2, -, -, -⟩ := op6 hop
    obtain ⟨e0, e1, -, -⟩ := vcell (T := 34) hl hu
    have e0' := Pure.keep hp2 e0
    have e1' := Pure.keep hp2 e1
    have hlt := (List.getElem?_eq_some_iff.1 hu).1
    have hr' := Lib.hid hr
    clear e0 e1 hl hu hr
    have P2 := Lib.hid hp2
    have R2 := Lib.hid hr0
    have S2 := Lib.hid hs2
    clear hp2 hop hrf hr0 hs2
    go_enter Try.func33, Try.ntmps33
    have hv := VlS.one ((w.alloc (.cells #[.int .i64 (5), .int .i64 a, .int .i64 ((j : Nat) : Int), .int .i64 c, .int .i64 n, .complex .f64 x y] 38)).alloc (.cells #[.bool true] 4)) u 34
    rw [S2.out] at hv
    have hp3 := (Only.refl (fun _ => False) ((w.alloc (.cells #[.int .i64 (5), .int .i64 a, .int .i64 ((j : Nat) : Int), .int .i64 c, .int .i64 n, .complex .f64 x y] 38)).alloc (.cells #[.bool true] 4))).alloc (.cells #[.bool u.r, .complex .f64 u.x u.y] 34)
    have V3 := Lib.hid hv
    have R3 := Lib.hid (Pure.keep hp3 R2.out)
    have P3 := Lib.hid (Pure.then P2.out hp3)
    clear hv hp3
    go_wp2_with fail
    refine (has1_no (w.heap.size + 1) true _ [u] _ V3.out (by simp) (by simp [hr'.out]) R3.out).mono ?_
    rintro e w4 ⟨rfl, hp4⟩
    have P4 := Lib.hid (Pure.then P3.out hp4)
    have V4 := Lib.hid (V3.out.pure hp4)
    clear hp4
    go_wp2_with fail
    refine (has2_no _ [u] _ V4.out (by simp) (by simpa using hno)).mono ?_
    rintro e w5 ⟨rfl, hp5⟩
    have P5 := Lib.hid (Pure.then P4.out hp5)
    clear hp5
    go_wp2_with fail
    go_ret
    exact ⟨rfl, P5.out⟩
  · have hp2 : Pure w ((w.alloc (.cells #[.int .i64 (10), .int .i64 a, .int .i64 ((j : Nat) : Int), .int .i64 c, .int .i64 n, .complex .f64 x y] 38)).alloc (.cells #[.bool true] 4)) := ((Only.refl _ _).alloc _).alloc _
    have hop := Pure.blk ((Only.refl (fun _ => False) _).alloc (.cells #[.bool true] 4)) (heap_alloc_new w (.cells #[.int .i64 (10), .int .i64 a, .int .i64 ((j : Nat) : Int), .int .i64 c, .int .i64 n, .complex .f64 x y] 38))
    have hrf := heap_alloc_new (w.alloc (.cells #[.int .i64 (10), .int .i64 a, .int .i64 ((j : Nat) : Int), .int .i64 c, .int .i64 n, .complex .f64 x y] 38)) (.cells #[.bool true] 4)
    rw [show (w.alloc (.cells #[.int .i64 (10), .int .i64 a, .int .i64 ((j : Nat) : Int), .int .i64 c, .int .i64 n, .complex .f64 x y] 38)).heap.size = w.heap.size + 1 from by simp] at hrf
    have hr0 : ((w.alloc (.cells #[.int .i64 (10), .int .i64 a, .int .i64 ((j : Nat) : Int), .int .i64 c, .int .i64 n, .complex .f64 x y] 38)).alloc (.cells #[.bool true] 4)).cell? ⟨w.heap.size + 1, 0, none⟩ = some (.bool true) := by rw [cell_of_row _ _ _ _ _ _ hrf]; rfl
    have hs2 : ((w.alloc (.cells #[.int .i64 (10), .int .i64 a, .int .i64 ((j : Nat) : Int), .int .i64 c, .int .i64 n, .complex .f64 x y] 38)).alloc (.cells #[.bool true] 4)).heap.size = w.heap.size + 2 := by simp
    obtain ⟨o0, o1, o2, -, -, -⟩ := op6 hop
    obtain ⟨e0, e1, -, -⟩ := vcell (T := 34) hl hu
    have e0' := Pure.keep hp2 e0
    have e1' := Pure.keep hp2 e1
    have hlt := (List.getElem?_eq_some_iff.1 hu).1
    have hr' := Lib.hid hr
    clear e0 e1 hl hu hr
    have P2 := Lib.hid hp2
    have R2 := Lib.hid hr0
    have S2 := Lib.hid hs2
    clear hp2 hop hrf hr0 hs2
    go_enter Try.func33, Try.ntmps33
    have hv := VlS.one ((w.alloc (.cells #[.int .i64 (10), .int .i64 a, .int .i64 ((j : Nat) : Int), .int .i64 c, .int .i64 n, .complex .f64 x y] 38)).alloc (.cells #[.bool true] 4)) u 34
    rw [S2.out] at hv
    have hp3 := (Only.refl (fun _ => False) ((w.alloc (.cells #[.int .i64 (10), .int .i64 a, .int .i64 ((j : Nat) : Int), .int .i64 c, .int .i64 n, .complex .f64 x y] 38)).alloc (.cells #[.bool true] 4))).alloc (.cells #[.bool u.r, .complex .f64 u.x u.y] 34)
    have V3 := Lib.hid hv
    have R3 := Lib.hid (Pure.keep hp3 R2.out)
    have P3 := Lib.hid (Pure.then P2.out hp3)
    clear hv hp3
    go_wp2_with fail
    refine (has1_no (w.heap.size + 1) true _ [u] _ V3.out (by simp) (by simp [hr'.out]) R3.out).mono ?_
    rintro e w4 ⟨rfl, hp4⟩
    have P4 := Lib.hid (Pure.then P3.out hp4)
    have V4 := Lib.hid (V3.out.pure hp4)
    clear hp4
    go_wp2_with fail
    refine (has2_no _ [u] _ V4.out (by simp) (by simpa using hno)).mono ?_
    rintro e w5 ⟨rfl, hp5⟩
    have P5 := Lib.hid (Pure.then P4.out hp5)
    clear hp5
    go_wp2_with fail
    go_ret
    exact ⟨rfl, P5.out⟩
  · have hp2 : Pure w ((w.alloc (.cells #[.int .i64 (11), .int .i64 a, .int .i64 ((j : Nat) : Int), .int .i64 c, .int .i64 n, .complex .f64 x y] 38)).alloc (.cells #[.bool true] 4)) := ((Only.refl _ _).alloc _).alloc _
    have hop := Pure.blk ((Only.refl (fun _ => False) _).alloc (.cells #[.bool true] 4)) (heap_alloc_new w (.cells #[.int .i64 (11), .int .i64 a, .int .i64 ((j : Nat) : Int), .int .i64 c, .int .i64 n, .complex .f64 x y] 38))
    have hrf := heap_alloc_new (w.alloc (.cells #[.int .i64 (11), .int .i64 a, .int .i64 ((j : Nat) : Int), .int .i64 c, .int .i64 n, .complex .f64 x y] 38)) (.cells #[.bool true] 4)
    rw [show (w.alloc (.cells #[.int .i64 (11), .int .i64 a, .int .i64 ((j : Nat) : Int), .int .i64 c, .int .i64 n, .complex .f64 x y] 38)).heap.size = w.heap.size + 1 from by simp] at hrf
    have hr0 : ((w.alloc (.cells #[.int .i64 (11), .int .i64 a, .int .i64 ((j : Nat) : Int), .int .i64 c, .int .i64 n, .complex .f64 x y] 38)).alloc (.cells #[.bool true] 4)).cell? ⟨w.heap.size + 1, 0, none⟩ = some (.bool true) := by rw [cell_of_row _ _ _ _ _ _ hrf]; rfl
    have hs2 : ((w.alloc (.cells #[.int .i64 (11), .int .i64 a, .int .i64 ((j : Nat) : Int), .int .i64 c, .int .i64 n, .complex .f64 x y] 38)).alloc (.cells #[.bool true] 4)).heap.size = w.heap.size + 2 := by simp
    obtain ⟨o0, o1, o2, -, -, -⟩ := op6 hop
    obtain ⟨e0, e1, -, -⟩ := vcell (T := 34) hl hu
    have e0' := Pure.keep hp2 e0
    have e1' := Pure.keep hp2 e1
    have hlt := (List.getElem?_eq_some_iff.1 hu).1
    have hr' := Lib.hid hr
    clear e0 e1 hl hu hr
    have P2 := Lib.hid hp2
    have R2 := Lib.hid hr0
    have S2 := Lib.hid hs2
    clear hp2 hop hrf hr0 hs2
    go_enter Try.func33, Try.ntmps33
    have hv := VlS.one ((w.alloc (.cells #[.int .i64 (11), .int .i64 a, .int .i64 ((j : Nat) : Int), .int .i64 c, .int .i64 n, .complex .f64 x y] 38)).alloc (.cells #[.bool true] 4)) u 34
    rw [S2.out] at hv
    have hp3 := (Only.refl (fun _ => False) ((w.alloc (.cells #[.int .i64 (11), .int .i64 a, .int .i64 ((j : Nat) : Int), .int .i64 c, .int .i64 n, .complex .f64 x y] 38)).alloc (.cells #[.bool true] 4))).alloc (.cells #[.bool u.r, .complex .f64 u.x u.y] 34)
    have V3 := Lib.hid hv
    have R3 := Lib.hid (Pure.keep hp3 R2.out)
    have P3 := Lib.hid (Pure.then P2.out hp3)
    clear hv hp3
    go_wp2_with fail
    refine (has1_no (w.heap.size + 1) true _ [u] _ V3.out (by simp) (by simp [hr'.out]) R3.out).mono ?_
    rintro e w4 ⟨rfl, hp4⟩
    have P4 := Lib.hid (Pure.then P3.out hp4)
    have V4 := Lib.hid (V3.out.pure hp4)
    clear hp4
    go_wp2_with fail
    refine (has2_no _ [u] _ V4.out (by simp) (by simpa using hno)).mono ?_
    rintro e w5 ⟨rfl, hp5⟩
    have P5 := Lib.hid (Pure.then P4.out hp5)
    clear hp5
    go_wp2_with fail
    go_ret
    exact ⟨rfl, P5.out⟩

/-- Operations that write into what A refers to. -/
theorem operands_a (o : Op20) (l : List Vl) (u : Vl) (lb j : Nat) (w : World) (hk : o.kind = 4) (hl : w.heap[lb]? = some (.cells (vcs l).toArray 34 (0, 0))) (hu : l[j]? = some u) (hj : o.a = j) (hr : u.r = true) (hno : sameB u.x u.y 0 4607182418800017408 = false) (_hlen : l.length ≤ 1000000) :
    Calls Try.prog 33 #[opV o, .slice (some ⟨lb, 0, none⟩) l.length l.length] w fun e w' => e = .returned (.int .i64 0) ∧ Pure w w' := by
  obtain ⟨k, a, b, c, n, x, y⟩ := o
  dsimp only at *
  obtain rfl := hj
  rcases hk with rfl
  · have hp2 : Pure w ((w.alloc (.cells #[.int .i64 (4), .int .i64 ((j : Nat) : Int), .int .i64 b, .int .i64 c, .int .i64 n, .complex .f64 x y] 38)).alloc (.cells #[.bool true] 4)) := ((Only.refl _ _).alloc _).alloc _
    have hop := Pure.blk ((Only.refl (fun _ => False) _).alloc (.cells #[.bool true] 4)) (heap_alloc_new w (.cells #[.int .i64 (4), .int .i64 ((j : Nat) : Int), .int .i64 b, .int .i64 c, .int .i64 n, .complex .f64 x y] 38))
    have hrf := heap_alloc_new (w.alloc (.cells #[.int .i64 (4), .int .i64 ((j : Nat) : Int), .int .i64 b, .int .i64 c, .int .i64 n, .complex .f64 x y] 38)) (.cells #[.bool true] 4)
    rw [show (w.alloc (.cells #[.int .i64 (4), .int .i64 ((j : Nat) : Int), .int .i64 b, .int .i64 c, .int .i64 n, .complex .f64 x y] 38)).heap.size = w.heap.size + 1 from by simp] at hrf
    have hr0 : ((w.alloc (.cells #[.int .i64 (4), .int .i64 ((j : Nat) : Int), .int .i64 b, .int .i64 c, .int .i64 n, .complex .f64 x y] 38)).alloc (.cells #[.bool true] 4)).cell? ⟨w.heap.size + 1, 0, none⟩ = some (.bool true) := by rw [cell_of_row _ _ _ _ _ _ hrf]; rfl
    have hs2 : ((w.alloc (.cells #[.int .i64 (4), .int .i64 ((j : Nat) : Int), .int .i64 b, .int .i64 c, .int .i64 n, .complex .f64 x y] 38)).alloc (.cells #[.bool true] 4)).heap.size = w.heap.size + 2 := by simp
    obtain ⟨o0, o1, o2, -, -, -⟩ := op6 hop
    obtain ⟨e0, e1, -, -⟩ := vcell (T := 34) hl hu
    have e0' := Pure.keep hp2 e0
    have e1' := Pure.keep hp2 e1
    have hlt := (List.getElem?_eq_some_iff.1 hu).1
    have hr' := Lib.hid hr
    clear e0 e1 hl hu hr
    have P2 := Lib.hid hp2
    have R2 := Lib.hid hr0
    have S2 := Lib.hid hs2
    clear hp2 hop hrf hr0 hs2
    go_enter Try.func33, Try.ntmps33
    have hv := VlS.one ((w.alloc (.cells #[.int .i64 (4), .int .i64 ((j : Nat) : Int), .int .i64 b, .int .i64 c, .int .i64 n, .complex .f64 x y] 38)).alloc (.cells #[.bool true] 4)) u 34
    rw [S2.out] at hv
    have hp3 := (Only.refl (fun _ => False) ((w.alloc (.cells #[.int .i64 (4), .int .i64 ((j : Nat) : Int), .int .i64 b, .int .i64 c, .int .i64 n, .complex .f64 x y] 38)).alloc (.cells #[.bool true] 4))).alloc (.cells #[.bool u.r, .complex .f64 u.x u.y] 34)
    have V3 := Lib.hid hv
    have R3 := Lib.hid (Pure.keep hp3 R2.out)
    have P3 := Lib.hid (Pure.then P2.out hp3)
    clear hv hp3
    go_wp2_with fail
    refine (has1_no (w.heap.size + 1) true _ [u] _ V3.out (by simp) (by simp [hr'.out]) R3.out).mono ?_
    rintro e w4 ⟨rfl, hp4⟩
    have P4 := Lib.hid (Pure.then P3.out hp4)
    have V4 := Lib.hid (V3.out.pure hp4)
    clear hp4
    go_wp2_with fail
    refine (has2_no _ [u] _ V4.out (by simp) (by simpa using hno)).mono ?_
    rintro e w5 ⟨rfl, hp5⟩
    have P5 := Lib.hid (Pure.then P4.out hp5)
    clear hp5
    go_wp2_with fail
    go_ret
    exact ⟨rfl, P5.out⟩

/-- A reference is set. -/
theorem operands_set (o : Op20) (l : List Vl) (u : Vl) (lb j : Nat) (w : World) (hk : o.kind = 8) (hl : w.heap[lb]? = some (.cells (vcs l).toArray 34 (0, 0))) (hu : l[j]? = some u) (hj : o.b = j) (hr : u.r = true) (_hlen : l.length ≤ 1000000) :
    Calls Try.prog 33 #[opV o, .slice (some ⟨lb, 0, none⟩) l.length l.length] w fun e w' => e = .returned (.int .i64 0) ∧ Pure w w' := by
  obtain ⟨k, a, b, c, n, x, y⟩ := o
  dsimp only at *
  obtain rfl := hj
  rcases hk with rfl
  · have hp2 : Pure w ((w.alloc (.cells #[.int .i64 (8), .int .i64 a, .int .i64 ((j : Nat) : Int), .int .i64 c, .int .i64 n, .complex .f64 x y] 38)).alloc (.cells #[.bool true] 4)) := ((Only.refl _ _).alloc _).alloc _
    have hop := Pure.blk ((Only.refl (fun _ => False) _).alloc (.cells #[.bool true] 4)) (heap_alloc_new w (.cells #[.int .i64 (8), .int .i64 a, .int .i64 ((j : Nat) : Int), .int .i64 c, .int .i64 n, .complex .f64 x y] 38))
    have hrf := heap_alloc_new (w.alloc (.cells #[.int .i64 (8), .int .i64 a, .int .i64 ((j : Nat) : Int), .int .i64 c, .int .i64 n, .complex .f64 x y] 38)) (.cells #[.bool true] 4)
    rw [show (w.alloc (.cells #[.int .i64 (8), .int .i64 a, .int .i64 ((j : Nat) : Int), .int .i64 c, .int .i64 n, .complex .f64 x y] 38)).heap.size = w.heap.size + 1 from by simp] at hrf
    have hr0 : ((w.alloc (.cells #[.int .i64 (8), .int .i64 a, .int .i64 ((j : Nat) : Int), .int .i64 c, .int .i64 n, .complex .f64 x y] 38)).alloc (.cells #[.bool true] 4)).cell? ⟨w.heap.size + 1, 0, none⟩ = some (.bool true) := by rw [cell_of_row _ _ _ _ _ _ hrf]; rfl
    have hs2 : ((w.alloc (.cells #[.int .i64 (8), .int .i64 a, .int .i64 ((j : Nat) : Int), .int .i64 c, .int .i64 n, .complex .f64 x y] 38)).alloc (.cells #[.bool true] 4)).heap.size = w.heap.size + 2 := by simp
    obtain ⟨o0, o1, o2, -, -, -⟩ := op6 hop
    obtain ⟨e0, e1, -, -⟩ := vcell (T := 34) hl hu
    have e0' := Pure.keep hp2 e0
    have e1' := Pure.keep hp2 e1
    have hlt := (List.getElem?_eq_some_iff.1 hu).1
    have hr' := Lib.hid hr
    clear e0 e1 hl hu hr
    have P2 := Lib.hid hp2
    have R2 := Lib.hid hr0
    have S2 := Lib.hid hs2
    clear hp2 hop hrf hr0 hs2
    go_enter Try.func33, Try.ntmps33
    have hv := VlS.one ((w.alloc (.cells #[.int .i64 (8), .int .i64 a, .int .i64 ((j : Nat) : Int), .int .i64 c, .int .i64 n, .complex .f64 x y] 38)).alloc (.cells #[.bool true] 4)) u 34
    rw [S2.out] at hv
    have hp3 := (Only.refl (fun _ => False) ((w.alloc (.cells #[.int .i64 (8), .int .i64 a, .int .i64 ((j : Nat) : Int), .int .i64 c, .int .i64 n, .complex .f64 x y] 38)).alloc (.cells #[.bool true] 4))).alloc (.cells #[.bool u.r, .complex .f64 u.x u.y] 34)
    have V3 := Lib.hid hv
    have R3 := Lib.hid (Pure.keep hp3 R2.out)
    have P3 := Lib.hid (Pure.then P2.out hp3)
    clear hv hp3
    go_wp2_with fail
    refine (has1_no (w.heap.size + 1) true _ [u] _ V3.out (by simp) (by simp [hr'.out]) R3.out).mono ?_
    rintro e w4 ⟨rfl, hp4⟩
    have P4 := Lib.hid (Pure.then P3.out hp4)
    have V4 := Lib.hid (V3.out.pure hp4)
    clear hp4
    go_wp2_with fail
    go_ret
    exact ⟨rfl, P4.out⟩

end Go.Proofs.Ytpllolefmijfdaa
