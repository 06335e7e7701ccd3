/-
  The contract of sporef.Ints: are two slices of ints the same?
-/
import Derived.Test.YtmpomkejmokdlaaMem
namespace Go.Proofs.Ytmpomkejmokdlaa
open Go.RowKit

def sameI (xs ys : List Int) : Bool := decide (xs = ys)
theorem sameI_self (xs : List Int) : sameI xs xs = true := by simp [sameI]
theorem sameI_no {xs ys : List Int} (h : xs ≠ ys) : sameI xs ys = false := by simpa [sameI] using h

theorem ints_any (va vb : Value) (xs ys : List Int) (w : World) (ha : SlI w w.heap.size va xs) (hb : SlI w w.heap.size vb ys) :
    Calls Try.prog 17 #[va, vb] w fun e w' => e = .returned (.bool (sameI xs ys)) ∧ ∃ d, w' = w.drewN d := by
  obtain ⟨A, c, rfl, a1, a2, _, a4⟩ := ha
  obtain ⟨B, d, rfl, b1, b2, _, b4⟩ := hb
  unfold maxLen at a2 b2
  have A4 := Lib.hid a4
  have B4 := Lib.hid b4
  clear a4 b4
  by_cases hl : xs.length = ys.length
  · have hl' : ((xs.length : Int) != (ys.length : Int)) = false := by simp [hl]
    have HL := Lib.hid hl
    clear hl
    go_enter Try.func17, Try.ntmps17
    go_wp2_with fail
    go_loopw [5] (fun i wr => ∃ k d : Nat, k ≤ xs.length ∧ i = .int .i64 k ∧ (∀ j, j < k → xs.getD j 0 = ys.getD j 0) ∧ wr = w.drewN d) (fun i _ => xs.length - (intOf i).toNat)
    case atStart => exact ⟨0, 0, Nat.zero_le _, by first | rfl | simp, by omega, rfl⟩
    case round =>
      obtain ⟨k, q, hk, rfl, hall, rfl⟩ := hrel
      have HALL := Lib.hid hall
      clear hall
      by_cases hlt : k < xs.length
      · have hlt' : k < ys.length := by have := HL.out; omega
        obtain ⟨b, off, hA, _, hc⟩ := A4.out (by omega)
        obtain ⟨b', off', hB, _, hc'⟩ := B4.out (by omega)
        subst hA
        subst hB
        have c1 := hc k hlt
        have c2 := hc' k hlt'
        clear hc hc'
        by_cases he : xs.getD k 0 = ys.getD k 0
        · have HE := Lib.hid he
          have he' : (xs.getD k 0 != ys.getD k 0) = false := by simpa using he
          clear he
          generalize xs.getD k 0 = x at c1 he'
          generalize ys.getD k 0 = y at c2 he'
          go_wp2_with fail
          go_quiet (fail)
          go_wp2_with fail
          go_roundw
          case rel =>
            refine ⟨k + 1, _, hlt, by first | rfl | simp, ?_, rfl⟩
            intro j hj
            by_cases e : j < k
            · exact HALL.out j e
            · obtain rfl : j = k := by omega
              exact HE.out
          case measure => simp [intOf]; omega
        · have HE := Lib.hid he
          have he' : (xs.getD k 0 != ys.getD k 0) = true := by simpa using he
          have hno := sameI_no (xs := xs) (ys := ys) (fun h => he (by rw [h]))
          have HNO := Lib.hid hno
          clear he hno
          generalize xs.getD k 0 = x at c1 he'
          generalize ys.getD k 0 = y at c2 he'
          go_wp2_with fail
          go_quiet (fail)
          go_wp2_with fail
          go_ret
          exact ⟨ret_b HNO.out, _, World.drewN_drewN ..⟩
      · obtain rfl : k = xs.length := by omega
        have hyes : sameI xs ys = true := by
          have hxy : xs = ys := by
            apply List.ext_getElem HL.out
            intro j h1 h2
            have := HALL.out j h1
            simpa [List.getD_eq_getElem?_getD, h1, h2] using this
          rw [hxy]
          exact sameI_self _
        have HY := Lib.hid hyes
        clear hyes
        go_wp2_with fail
        go_ret
        exact ⟨ret_b HY.out, _, rfl⟩
  · have hl' : ((xs.length : Int) != (ys.length : Int)) = true := by simp; omega
    have hno := sameI_no (xs := xs) (ys := ys) (fun h => hl (by rw [h]))
    have HNO := Lib.hid hno
    clear hl hno
    go_enter Try.func17, Try.ntmps17
    go_wp2_with fail
    go_ret
    exact ⟨ret_b HNO.out, 0, rfl⟩

end Go.Proofs.Ytmpomkejmokdlaa
