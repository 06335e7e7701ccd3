/-
  Contracts of the functions of package stock, and of the statements' own small ones.
-/
import Derived.Test.YtlnhehjdicpeoaaMem
namespace Go.Proofs.Ytlnhehjdicpeoaa
open Go.RowKit

/-- Do the numbers stand side by side? -/
def sideB (l : List Int) : Bool := decide (∀ i, i < l.length - 1 → l.getD i 0 ≠ 9223372036854775807 ∧ l.getD (i + 1) 0 = l.getD i 0 + 1)

theorem side_any (v : Value) (xs : List Int) (w : World) (B : Nat) (h : SlI w B v xs) :
    Calls Try.prog 9 #[v] w fun e w' => e = .returned (.bool (sideB xs)) ∧ ∃ n, w' = w.drewN n := by
  obtain ⟨A, c, rfl, h1, h2, h3, h4⟩ := h
  unfold maxLen at h2
  go_enter Try.func9, Try.ntmps9
  go_wp2
  go_loopw [3] (fun i wr => ∃ k d : Nat, 1 ≤ k ∧ i = .int .i64 k ∧ wr = w.drewN d ∧ (∀ i, i + 1 < k → i < xs.length - 1 → xs.getD i 0 ≠ 9223372036854775807 ∧ xs.getD (i + 1) 0 = xs.getD i 0 + 1)) (fun i _ => xs.length - (intOf i).toNat)
  case atStart => exact ⟨1, 0, by omega, rfl, rfl, by omega⟩
  case round =>
    obtain ⟨k, d, hk, rfl, rfl, hrel⟩ := hrel
    by_cases hlt : k < xs.length
    · obtain ⟨b, off, rfl, hb, hc⟩ := h4 (by omega)
      have c1 := hc (k - 1) (by omega)
      have c2 := hc k hlt
      have b1 := h3 (xs.getD (k - 1) 0) (getD_mem xs (k - 1) (by omega))
      have key : (∀ i, i + 1 < k + 1 → i < xs.length - 1 → xs.getD i 0 ≠ 9223372036854775807 ∧ xs.getD (i + 1) 0 = xs.getD i 0 + 1) ↔ (xs.getD (k - 1) 0 ≠ 9223372036854775807 ∧ xs.getD k 0 = xs.getD (k - 1) 0 + 1) := by
        constructor
        · intro h
          have := h (k - 1) (by omega) (by omega)
          rwa [Nat.sub_add_cancel hk] at this
        · rintro h i h5 h6
          by_cases hi : i + 1 < k
          · exact hrel i hi h6
          · obtain rfl : i = k - 1 := by omega
            rwa [Nat.sub_add_cancel hk]
      have hno : ¬ (xs.getD (k - 1) 0 ≠ 9223372036854775807 ∧ xs.getD k 0 = xs.getD (k - 1) 0 + 1) → sideB xs = false := by
        intro h
        simp only [sideB, decide_eq_false_iff_not]
        intro h'
        have := h' (k - 1) (by omega)
        rw [Nat.sub_add_cancel hk] at this
        exact h this
      have KEY := Lib.hid key
      have HNO := Lib.hid hno
      have HREL := Lib.hid hrel
      clear hc h4 key hno hrel
      generalize xs.getD (k - 1) 0 = x at *
      generalize xs.getD k 0 = y at *
      have kk : ((k - 1 : Nat) : Int) = (k : Int) - 1 := by omega
      go_wp2
      by_cases hx : x = 9223372036854775807
      · subst hx
        go_quiet (fail)
        go_wp2
        go_ret
        exact ⟨ret_b (HNO.out (by omega)), _, World.drewN_drewN ..⟩
      · have hx2 : x < 9223372036854775807 := by omega
        have hx' : (x == 9223372036854775807) = false := by simpa using hx
        by_cases hy : y = x + 1
        · have hy' : (y != x + 1) = false := by simpa using hy
          have HX := Lib.hid hx
          have HY := Lib.hid hy
          clear hx hy
          go_quiet (fail)
          go_wp2
          go_roundw
          case rel => exact ⟨k + 1, _, by omega, by go_num, rfl, KEY.out.2 ⟨HX.out, HY.out⟩⟩
          case measure => simp [intOf]; omega
        · have hy' : (y != x + 1) = true := by simpa using hy
          have HX := Lib.hid hx
          have HY := Lib.hid hy
          clear hx hy
          go_quiet (fail)
          go_wp2
          go_ret
          exact ⟨ret_b (HNO.out (fun h => HY.out h.2)), _, World.drewN_drewN ..⟩
    · have hyes : sideB xs = true := by
        simp only [sideB, decide_eq_true_eq]
        intro i hi
        exact hrel i (by omega) hi
      have HYES := Lib.hid hyes
      clear hyes hrel
      go_wp2
      go_ret
      exact ⟨ret_b HYES.out, _, rfl⟩
end Go.Proofs.Ytlnhehjdicpeoaa
