/-
  Contracts of package shape: each function returns just what the plain function of its name below says, and nothing that there was has changed.
-/
import Derived.Test.YtpllolefmijfdaaMay
namespace Go.Proofs.Ytpllolefmijfdaa
open Go.RowKit

/-! ### The plain functions -/
def upI (n by_ : Int) : Int := (n + by_ - 1) / by_
def dataI (k : Int) : Int := if k < 1 ∨ 512 < k then 0 else (k + 7) / 8
def sizeI (a : Bool) (n : Nat) (k : Int) : Int :=
  if mayB a n = false ∨ k < 0 ∨ 512 < k ∨ (a = false ∧ 0 < k) then -1 else if a then 1 + dataI k else if n ≤ 6 then 1 else 1 + (n : Int) / 7
def spineI (a : Bool) (n : Nat) (k : Int) : Int := if mayB a n = false ∨ a = false ∨ dataI k ≤ 4 then 0 else dataI k + 2
def placeOk (a : Bool) (n : Nat) (k : Int) : Bool := mayB a n && !a && decide (0 ≤ k) && decide (k < n)
def placeF (k : Int) : Int := if k < 6 then 0 else 1 + (k - 6) / 7
def placeW (k : Int) : Int := if k < 6 then 2 + k else 1 + (k - 6) % 7

theorem up_any (n : Int) (d : Nat) (w : World) (h0 : 0 ≤ n) (h1 : n ≤ 100000) (hd : d = 7 ∨ d = 8) :
    Calls Try.prog 29 #[.int .i64 n, .int .i64 (d : Int)] w fun e w' => e = .returned (.int .i64 (upI n d)) ∧ w = w' := by
  rcases hd with rfl | rfl
  all_goals
    go_enter Try.func29, Try.ntmps29
    go_wp2
    go_ret
    exact ⟨ret_i (by simp [upI]), rfl⟩

theorem data_any (k : Int) (w : World) : Calls Try.prog 28 #[.int .i64 k] w fun e w' => e = .returned (.int .i64 (dataI k)) ∧ w = w' := by
  by_cases h1 : k < 1
  · go_enter Try.func28, Try.ntmps28
    go_wp2
    go_ret
    exact ⟨ret_i (by simp [dataI, h1]), rfl⟩
  · by_cases h2 : 512 < k
    · go_enter Try.func28, Try.ntmps28
      go_wp2
      go_ret
      exact ⟨ret_i (by simp [dataI, h2]), rfl⟩
    · go_enter Try.func28, Try.ntmps28
      go_wp2_with fail
      refine (up_any k 8 w (by omega) (by omega) (.inr rfl)).mono ?_
      rintro e w' ⟨rfl, rfl⟩
      go_wp2
      go_ret
      exact ⟨ret_i (by simp [dataI, upI]; omega), rfl⟩

theorem size_any (a : Bool) (A : Option Addr) (n c : Nat) (k : Int) (w : World) (hn : n ≤ 9223372036854775807) :
    Calls Try.prog 14 #[shV a A n c, .int .i64 k] w fun e w' => e = .returned (.int .i64 (sizeI a n k)) ∧ Pure w w' := by
  have hmb : mayB a n = true → n ≤ 40 := mayB_le
  cases hm : mayB a n
  · clear hmb
    go_enter Try.func14, Try.ntmps14
    go_wp2_with fail
    refine (may_any a A n c _ hn).mono ?_
    rintro e w1 ⟨rfl, hp1⟩
    have P1 := Lib.hid hp1
    clear hp1
    go_wp2
    go_ret
    exact ⟨ret_i (by simp [sizeI, hm]), Pure.then ((Only.refl _ _).alloc _) P1.out⟩
  · have h40 := hmb hm
    clear hmb
    by_cases h1 : k < 0
    · go_enter Try.func14, Try.ntmps14
      go_wp2_with fail
      refine (may_any a A n c _ hn).mono ?_
      rintro e w1 ⟨rfl, hp1⟩
      have P1 := Lib.hid hp1
      clear hp1
      go_wp2
      go_ret
      exact ⟨ret_i (by simp [sizeI, h1]), Pure.then ((Only.refl _ _).alloc _) P1.out⟩
    · by_cases h2 : 512 < k
      · go_enter Try.func14, Try.ntmps14
        go_wp2_with fail
        refine (may_any a A n c _ hn).mono ?_
        rintro e w1 ⟨rfl, hp1⟩
        have P1 := Lib.hid hp1
        clear hp1
        go_wp2
        go_ret
        exact ⟨ret_i (by simp [sizeI, h2]), Pure.then ((Only.refl _ _).alloc _) P1.out⟩
      · have HM := Lib.hid hm
        cases a
        · by_cases h3 : 0 < k
          · go_enter Try.func14, Try.ntmps14
            go_wp2_with fail
            refine (may_any false A n c _ hn).mono ?_
            rintro e w1 ⟨rfl, hp1⟩
            have c0 : w1.cell? ⟨w.heap.size, 0, none⟩ = some (.bool false) := (hp1.cell (p := ⟨w.heap.size, 0, none⟩) (by simp) (fun f => f)).trans (by simp)
            have P1 := Lib.hid hp1
            clear hp1
            go_wp2
            go_ret
            exact ⟨ret_i (by simp [sizeI, h3]), Pure.then ((Only.refl _ _).alloc _) P1.out⟩
          · by_cases h6 : n ≤ 6
            · go_enter Try.func14, Try.ntmps14
              go_wp2_with fail
              refine (may_any false A n c _ hn).mono ?_
              rintro e w1 ⟨rfl, hp1⟩
              have c0 : w1.cell? ⟨w.heap.size, 0, none⟩ = some (.bool false) := (hp1.cell (p := ⟨w.heap.size, 0, none⟩) (by simp) (fun f => f)).trans (by simp)
              have P1 := Lib.hid hp1
              clear hp1
              go_wp2
              go_ret
              exact ⟨ret_i (by rw [sizeI, if_neg (by simp [hm]; omega)]; simp [h6]), Pure.then ((Only.refl _ _).alloc _) P1.out⟩
            · go_enter Try.func14, Try.ntmps14
              go_wp2_with fail
              refine (may_any false A n c _ hn).mono ?_
              rintro e w1 ⟨rfl, hp1⟩
              have c0 : w1.cell? ⟨w.heap.size, 0, none⟩ = some (.bool false) := (hp1.cell (p := ⟨w.heap.size, 0, none⟩) (by simp) (fun f => f)).trans (by simp)
              have P1 := Lib.hid hp1
              clear hp1
              go_wp2_with fail
              refine (up_any _ 7 w1 (by omega) (by omega) (.inl rfl)).mono ?_
              rintro e w2 ⟨rfl, rfl⟩
              have eu : upI ((n : Int) - 6) (7 : Nat) = (n : Int) / 7 := by unfold upI; omega
              rw [eu]
              have q1 : 0 ≤ (n : Int) / 7 := by omega
              have q2 : (n : Int) / 7 ≤ 10 := by omega
              go_wp2
              go_ret
              exact ⟨ret_i (by rw [sizeI, if_neg (by simp [hm]; omega)]; simp [h6]), Pure.then ((Only.refl _ _).alloc _) P1.out⟩
        · have hd0 : 0 ≤ dataI k := by unfold dataI; split <;> omega
          have hd1 : dataI k ≤ 64 := by unfold dataI; split <;> omega
          go_enter Try.func14, Try.ntmps14
          go_wp2_with fail
          refine (may_any true A n c _ hn).mono ?_
          rintro e w1 ⟨rfl, hp1⟩
          have c0 : w1.cell? ⟨w.heap.size, 0, none⟩ = some (.bool true) := (hp1.cell (p := ⟨w.heap.size, 0, none⟩) (by simp) (fun f => f)).trans (by simp)
          have P1 := Lib.hid hp1
          clear hp1
          go_wp2_with fail
          refine (data_any k w1).mono ?_
          rintro e w2 ⟨rfl, rfl⟩
          go_wp2
          go_ret
          exact ⟨ret_i (by rw [sizeI, if_neg (by simp [hm]; omega)]; simp), Pure.then ((Only.refl _ _).alloc _) P1.out⟩

theorem spine_any (a : Bool) (A : Option Addr) (n c : Nat) (k : Int) (w : World) (hn : n ≤ 9223372036854775807) :
    Calls Try.prog 15 #[shV a A n c, .int .i64 k] w fun e w' => e = .returned (.int .i64 (spineI a n k)) ∧ Pure w w' := by
  have hd0 : 0 ≤ dataI k := by unfold dataI; split <;> omega
  have hd1 : dataI k ≤ 64 := by unfold dataI; split <;> omega
  cases hm : mayB a n
  · cases a
    all_goals
      go_enter Try.func15, Try.ntmps15
      go_wp2_with fail
      refine (may_any _ A n c _ hn).mono ?_
      rintro e w1 ⟨rfl, hp1⟩
      have P1 := Lib.hid hp1
      clear hp1
      go_wp2
      go_ret
      exact ⟨ret_i (by simp [spineI, hm]), Pure.then ((Only.refl _ _).alloc _) P1.out⟩
  · cases a
    ·
      go_enter Try.func15, Try.ntmps15
      go_wp2_with fail
      refine (may_any false A n c _ hn).mono ?_
      rintro e w1 ⟨rfl, hp1⟩
      have c0 : w1.cell? ⟨w.heap.size, 0, none⟩ = some (.bool false) := (hp1.cell (p := ⟨w.heap.size, 0, none⟩) (by simp) (fun f => f)).trans (by simp)
      have c1 : w1.cell? ⟨w.heap.size, 1, none⟩ = some (.slice A n c) := (hp1.cell (p := ⟨w.heap.size, 1, none⟩) (by simp) (fun f => f)).trans (by simp)
      have P1 := Lib.hid hp1
      clear hp1
      go_wp2
      go_ret
      exact ⟨ret_i (by simp [spineI]), Pure.then ((Only.refl _ _).alloc _) P1.out⟩
    · by_cases h4 : dataI k ≤ 4
      ·
        go_enter Try.func15, Try.ntmps15
        go_wp2_with fail
        refine (may_any true A n c _ hn).mono ?_
        rintro e w1 ⟨rfl, hp1⟩
        have c0 : w1.cell? ⟨w.heap.size, 0, none⟩ = some (.bool true) := (hp1.cell (p := ⟨w.heap.size, 0, none⟩) (by simp) (fun f => f)).trans (by simp)
        have c1 : w1.cell? ⟨w.heap.size, 1, none⟩ = some (.slice A n c) := (hp1.cell (p := ⟨w.heap.size, 1, none⟩) (by simp) (fun f => f)).trans (by simp)
        have P1 := Lib.hid hp1
        clear hp1
        go_wp2_with fail
        refine (data_any k w1).mono ?_
        rintro e w2 ⟨rfl, rfl⟩
        go_wp2
        go_ret
        exact ⟨ret_i (by simp [spineI, h4]), Pure.then ((Only.refl _ _).alloc _) P1.out⟩
      ·
        go_enter Try.func15, Try.ntmps15
        go_wp2_with fail
        refine (may_any true A n c _ hn).mono ?_
        rintro e w1 ⟨rfl, hp1⟩
        have c0 : w1.cell? ⟨w.heap.size, 0, none⟩ = some (.bool true) := (hp1.cell (p := ⟨w.heap.size, 0, none⟩) (by simp) (fun f => f)).trans (by simp)
        have c1 : w1.cell? ⟨w.heap.size, 1, none⟩ = some (.slice A n c) := (hp1.cell (p := ⟨w.heap.size, 1, none⟩) (by simp) (fun f => f)).trans (by simp)
        have P1 := Lib.hid hp1
        clear hp1
        go_wp2_with fail
        refine (data_any k w1).mono ?_
        rintro e w2 ⟨rfl, rfl⟩
        go_wp2_with fail
        refine (data_any k w1).mono ?_
        rintro e w2 ⟨rfl, rfl⟩
        go_wp2
        go_ret
        exact ⟨ret_i (by rw [spineI, if_neg (by simp [hm]; omega)]), Pure.then ((Only.refl _ _).alloc _) P1.out⟩


end Go.Proofs.Ytpllolefmijfdaa
