/-
  The contract of the statements' own function 'first' (chapter 9): it returns true, and nothing that there was has changed.
-/
import Derived.Test.YtlnhehjdicpeoaaSt4
namespace Go.Proofs.Ytlnhehjdicpeoaa
open Go.RowKit

/-- A slice literal of ints reads as its numbers. -/
theorem SlI.lit (w : World) (e : TypeId) (xs : List Int) (cs : Array Value) (B n : Nat) (hcs : cs = (ints xs).toArray) (hB : w.heap.size = B) (hn : xs.length = n) (hx : ∀ x ∈ xs, -9223372036854775808 ≤ x ∧ x ≤ 9223372036854775807) (hl : n ≤ 1000000) :
    SlI (w.alloc (.cells cs e)) (w.alloc (.cells cs e)).heap.size (.slice (some ⟨B, 0, none⟩) n n) xs := by
  subst hcs; subst hB; subst hn
  have h := World.ownsRow_lit (e := e) (size := 1) (base := 0) w (ints xs).toArray xs.length (Nat.zero_le _) (by simp only [maxLen]; omega) (by simp [ints_length])
  exact SlI.of_own (e := e) (base := 0) (n := xs.length) (by simpa using h) hx

theorem stk_new (w : World) (most : Int) (h0 : 0 ≤ most) (h8 : most ≤ 8) :
    StkOf (w.alloc (.cells #[.slice none 0 0, .int .i64 most] 46)) w.heap.size most (.slice none 0 0) [] :=
  ⟨heap_alloc_new w _, World.ownsRow_nil _ _ _ _, h0, h8, by simpa using h0, by simp⟩

theorem first_any (w : World) : Calls Try.prog 8 #[] w fun e w' => e = .returned (.bool true) ∧ Pure w w' := by
  have hs1 : sideB [3, 4, 6] = false := by decide
  have hs2 : sideB [] = true := by decide
  go_enter Try.func8, Try.ntmps8
  go_wp2_with fail
  refine (new_ok 2 w (by omega) (by omega)).mono ?_
  rintro e w' ⟨rfl, rfl⟩
  have k1 := stk_new w 2 (by omega) (by omega)
  generalize hW1 : w.alloc (.cells #[.slice none 0 0, .int .i64 2] 46) = W1 at k1
  have z1 : W1.heap.size = w.heap.size + 1 := by rw [← hW1]; simp
  have o1 : Pure w W1 := by rw [← hW1]; exact (Only.refl _ _).alloc _
  have K1 := Lib.hid k1; have O1 := Lib.hid o1; have Z1 := Lib.hid z1; have HW1 := Lib.hid hW1
  clear k1 o1 z1 hW1
  go_wp2_with fail
  refine (put_ok w.heap.size 2 _ _ [] [5, 6] _ (K1.out.only (S := fun _ => False) ((Only.refl _ _).alloc _) (fun _ _ f => f)) (SlI.lit W1 _ [5, 6] #[.int .i64 5, .int .i64 6] _ 2 rfl rfl rfl (by decide) (by decide)) (by decide)).mono ?_
  rintro e W3 ⟨v3, rfl, k3, o3, -⟩
  have oo3 : Pure w W3 := O1.out.trans ((((Only.refl _ W1).alloc _).trans o3 (fun _ _ e => e)).mono (T := fun i => w.heap.size ≤ i) (fun k _ e => by rcases e with e | e; omega; simp [Value.ownBlock] at e)) (fun i hi h => by omega)
  have K3 := Lib.hid k3; have O3 := Lib.hid oo3
  clear k3 o3 oo3 K1 O1 Z1 HW1
  go_wp2_with fail
  refine (put_no w.heap.size 2 _ _ [5, 6] [7] _ (K3.out.only (S := fun _ => False) ((Only.refl _ _).alloc _) (fun _ _ f => f)) (SlI.lit W3 _ [7] #[.int .i64 7] _ 1 rfl rfl rfl (by decide) (by decide)) (by decide)).mono ?_
  rintro e W4 ⟨rfl, d4, rfl⟩
  have k4 := (K3.out.only (S := fun _ => False) ((Only.refl _ W3).alloc (.cells #[.int .i64 7] 3)) (fun _ _ f => f)).drewN d4
  have o4 : Pure w ((W3.alloc (.cells #[.int .i64 7] 3)).drewN d4) := (O3.out.alloc _).drewN d4
  generalize (W3.alloc (.cells #[.int .i64 7] 3)).drewN d4 = W4 at *
  have K4 := Lib.hid k4; have O4 := Lib.hid o4
  obtain ⟨A, c, hv, hl⟩ := k4.form
  simp only [List.nil_append, List.length_cons, List.length_nil] at hv
  subst hv
  have hk4 := k4.at_
  clear k4 o4 K3 O3
  go_wp2_with fail
  refine (len_any w.heap.size A _ c 2 W4 hk4).mono ?_
  rintro e W5 ⟨rfl, rfl⟩
  go_wp2_with fail
  refine (room_any w.heap.size A _ c 2 W4 hk4 (by omega) (by omega) (by omega)).mono ?_
  rintro e W5 ⟨rfl, d5, rfl⟩
  go_wp2_with fail
  refine (side_any _ [3, 4, 6] _ _ (SlI.lit _ _ [3, 4, 6] #[.int .i64 3, .int .i64 4, .int .i64 6] _ 3 rfl rfl rfl (by decide) (by decide))).mono ?_
  rintro e W6 ⟨rfl, d6, rfl⟩
  go_wp2_with fail
  refine (side_any _ [] _ 0 (SlI.nil _ _)).mono ?_
  rintro e W7 ⟨rfl, d7, rfl⟩
  go_wp2_with fail
  go_ret
  exact ⟨rfl, ((O4.out.drewN _).alloc _).drewN _⟩
end Go.Proofs.Ytlnhehjdicpeoaa
