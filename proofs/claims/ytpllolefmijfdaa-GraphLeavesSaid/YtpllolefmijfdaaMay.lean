/-
  The contract of shape.May, and what a shape is as a value.
-/
import Derived.Test.YtpllolefmijfdaaMem
namespace Go.Proofs.Ytpllolefmijfdaa
open Go.RowKit

def mayB (a : Bool) (n : Nat) : Bool := decide (n ≤ 40) && (!a || n == 1)

/-- A shape as a value. -/
abbrev shV (a : Bool) (A : Option Addr) (n c : Nat) : Value := .agg #[.bool a, .slice A n c]

theorem may_any (a : Bool) (A : Option Addr) (n c : Nat) (w : World) (hn : n ≤ 9223372036854775807) :
    Calls Try.prog 27 #[shV a A n c] w fun e w' => e = .returned (.bool (mayB a n)) ∧ Pure w w' := by
  by_cases h1 : n ≤ 40
  · cases a
    · go_enter Try.func27, Try.ntmps27
      go_wp2
      go_ret
      exact ⟨ret_b (by simp [mayB, h1]), (Only.refl _ _).alloc _⟩
    · by_cases h2 : n = 1
      · subst h2
        go_enter Try.func27, Try.ntmps27
        go_wp2
        go_ret
        exact ⟨ret_b (by simp [mayB]), (Only.refl _ _).alloc _⟩
      · have h2' : ((n : Int) == 1) = false := by simp; omega
        go_enter Try.func27, Try.ntmps27
        go_wp2
        go_ret
        exact ⟨ret_b (by simp [mayB, h2]), (Only.refl _ _).alloc _⟩
  · go_enter Try.func27, Try.ntmps27
    go_wp2
    go_ret
    exact ⟨ret_b (by simp [mayB, h1]), (Only.refl _ _).alloc _⟩

theorem mayB_le {a : Bool} {n : Nat} (h : mayB a n = true) : n ≤ 40 := by
  simp only [mayB, Bool.and_eq_true, decide_eq_true_eq] at h
  exact h.1

end Go.Proofs.Ytpllolefmijfdaa
