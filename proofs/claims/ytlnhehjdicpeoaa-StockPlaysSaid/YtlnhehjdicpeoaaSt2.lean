/-
  Contracts of the methods of stock.Stock, and of slices.Clone at ints.
-/
import Derived.Test.YtlnhehjdicpeoaaSt1
namespace Go.Proofs.Ytlnhehjdicpeoaa
open Go.RowKit

/-- A Stock behind a pointer to block b: the slice value v, the bound. -/
def Stk (w : World) (b : Nat) (v : Value) (most : Int) : Prop := w.heap[b]? = some (.cells #[v, .int .i64 most] 46 (0, 0))

section
variable {w w' : World} {b : Nat} {v : Value} {most : Int}
theorem Stk.lt (h : Stk w b v most) : b < w.heap.size := (Array.getElem?_eq_some_iff.1 h).1
theorem Stk.c0 (h : Stk w b v most) : w.cell? ⟨b, 0, none⟩ = some v := by rw [cell_of_row w b 0 _ _ _ h]; rfl
theorem Stk.c1 (h : Stk w b v most) : w.cell? ⟨b, 1, none⟩ = some (.int .i64 most) := by rw [cell_of_row w b 1 _ _ _ h]; rfl
theorem Stk.free (h : Stk w b v most) (i : Nat) : w.frozen? ⟨b, i, none⟩ = false := frozen_of_row w b i _ _ h
theorem Stk.only {S : Nat → Prop} (h : Stk w b v most) (ho : Only S w w') (hn : ¬ S b) : Stk w' b v most := (ho.block b h.lt hn).trans h
theorem Stk.set (h : Stk w b v most) (v' : Value) : Stk (w.setCell ⟨b, 0, none⟩ v') b v' most := by
  unfold Stk at h ⊢
  simp [World.setCell, Array.getElem?_modify, h]
theorem Stk.drewN (h : Stk w b v most) (n : Nat) : Stk (w.drewN n) b v most := h
theorem Stk.ne (h : Stk w b v most) {base n : Nat} {u : Value} {xs : List Value} (ho : w.ownsRow base 3 1 u n xs) {k : Nat} (hk : u.ownBlock = some k) : k ≠ b := by
  rintro rfl
  rcases ho.2 with ⟨rfl, _⟩ | ⟨g, cap, cur, rfl, _, hg, _⟩
  · simp [Value.ownBlock] at hk
  · simp only [Value.ownBlock, Option.some.injEq] at hk
    subst hk
    unfold Stk at h
    rw [h] at hg
    simp at hg
end

theorem int_info : (Try.prog.info? 3).map (fun i => (i.zero, i.size, i.bytes)) = some (some (.int .i64 0), 1, 8) := by kernel_rfl

theorem new_ok (most : Int) (w : World) (h0 : 0 ≤ most) (h1 : most ≤ 8) :
    Calls Try.prog 10 #[.int .i64 most] w fun e w' => e = .returned (.tuple #[.pointer (some ⟨w.heap.size, 0, none⟩), .int .i64 0]) ∧ w' = w.alloc (.cells #[.slice none 0 0, .int .i64 most] 46) := by
  go_enter Try.func10, Try.ntmps10
  go_wp2
  go_ret2
  exact ⟨rfl, rfl⟩

theorem new_no (most : Int) (w : World) (h : most < 0 ∨ 8 < most) :
    Calls Try.prog 10 #[.int .i64 most] w fun e w' => e = .returned (.tuple #[.pointer none, .int .i64 1]) ∧ w = w' := by
  rcases h with h | h
  · go_enter Try.func10, Try.ntmps10
    go_wp2
    go_ret2
    exact ⟨rfl, rfl⟩
  · have h0 : ¬ most < 0 := by omega
    go_enter Try.func10, Try.ntmps10
    go_wp2
    go_ret2
    exact ⟨rfl, rfl⟩

theorem room_any (b : Nat) (A : Option Addr) (n c : Nat) (most : Int) (w : World) (h : Stk w b (.slice A n c) most) (hn : n ≤ 9223372036854775807) (h0 : 0 ≤ most) (h8 : most ≤ 8) :
    Calls Try.prog 11 #[.pointer (some ⟨b, 0, none⟩)] w fun e w' => e = .returned (.int .i64 (most - n)) ∧ ∃ d, w' = w.drewN d := by
  have c0 := h.c0
  have c1 := h.c1
  go_enter Try.func11, Try.ntmps11
  go_wp2
  go_quiet (fail)
  go_wp2
  go_ret
  exact ⟨rfl, _, rfl⟩

theorem len_any (b : Nat) (A : Option Addr) (n c : Nat) (most : Int) (w : World) (h : Stk w b (.slice A n c) most) :
    Calls Try.prog 14 #[.pointer (some ⟨b, 0, none⟩)] w fun e w' => e = .returned (.int .i64 n) ∧ w = w' := by
  have c0 := h.c0
  go_enter Try.func14, Try.ntmps14
  go_wp2
  go_ret
  exact ⟨rfl, rfl⟩

theorem drain_any (b : Nat) (v : Value) (most : Int) (w : World) (h : Stk w b v most) :
    Calls Try.prog 19 #[.pointer (some ⟨b, 0, none⟩)] w fun e w' => e = .returned v ∧ w' = w.setCell ⟨b, 0, none⟩ (.slice none 0 0) := by
  have c0 := h.c0
  have f0 := h.free 0
  go_enter Try.func19, Try.ntmps19
  go_wp2
  go_ret
  exact ⟨rfl, rfl⟩

/-- slices.Clone: a row of the call's own with the same numbers. -/
theorem clone_any (v : Value) (xs : List Int) (w : World) (h : SlI w w.heap.size v xs) (hx : xs.length ≤ 1000000) :
    Calls Try.prog 22 #[v] w fun e w' => ∃ v', e = .returned v' ∧ Pure w w' ∧ w'.ownsRow w.heap.size 3 1 v' xs.length (ints xs) := by
  obtain ⟨i0, hi0, hz0, hz1, hz2⟩ := info_parts int_info
  have h' := h
  obtain ⟨A, c, rfl, h1, h2, h3, h4⟩ := h'
  rcases A with _ | ad
  · have hl : xs.length = 0 := by
      rcases Nat.eq_zero_or_pos xs.length with h0 | h0
      · exact h0
      · obtain ⟨b, off, e, _⟩ := h4 h0
        cases e
    obtain rfl : xs = [] := List.eq_nil_of_length_eq_zero hl
    have heq := fun w : World => Lib.run_eql_slice_nil (P := Try.prog) w 23 3 none 0 c 0 0 Try.underlying23
    go_enter Try.func22, Try.ntmps22
    go_wp2
    go_ret
    exact ⟨_, rfl, Only.refl _ _, World.ownsRow_nil _ _ _ _⟩
  · have hs := h.src.2
    have hs' : Src (w.alloc (.cells #[] 3)) 1 (some ad) xs.length (ints xs) := hs.below ((Below.refl w.heap.size w).alloc (Nat.le_refl _) _) (fun b hm e => by injection e with e; subst e; obtain ⟨b', off, e', hb, _⟩ := h4 hm; injection e' with e'; subst e'; exact hb)
    have heq := fun w : World => Lib.run_eql_slice_nil (P := Try.prog) w 23 3 (some ad) xs.length c 0 0 Try.underlying23
    clear h h4
    go_enter Try.func22, Try.ntmps22
    go_wp2_with (at_builtin; refine wpList_app _ rfl (.tmp 5) (.tmp 6) _ rfl w.heap.size 3 i0 _ 1 8 Try.underlying23 hi0 hz0 hz1 hz2 rfl (by omega) _ 0 [] rfl (World.ownsRow_made w #[] 0 (Nat.le_refl _) (by simp [maxLen]) rfl) _ _ _ _ rfl hs' (ints_one xs) (by simp only [maxLen]; omega) (by omega) (by simp) ?_; intro v1 w1 hown1 hg1 hat1)
    go_ret
    refine ⟨_, rfl, ((Only.refl _ _).alloc _).grown hg1 (fun k hk e => ?_), by simpa using hown1⟩
    injection e with e
    exact absurd e (Nat.ne_of_gt hk)

end Go.Proofs.Ytlnhehjdicpeoaa
