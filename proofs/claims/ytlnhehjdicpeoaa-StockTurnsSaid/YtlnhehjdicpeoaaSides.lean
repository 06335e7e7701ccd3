/-
  StockSides: numbers side by side are told so; with one of them three more they are not. For every input.
-/
import Derived.Test.YtlnhehjdicpeoaaSt5
namespace Go.Proofs.Ytlnhehjdicpeoaa.stockSides
open Go.RowKit Go.ChangeShapes Go.WideShapes Go.ChangeAt

/-! ### Plain: lists of numbers -/
def run (a : Int) (k : Nat) : List Int := (List.range k).map fun (i : Nat) => a + (i : Int)
theorem run_len (a : Int) (k : Nat) : (run a k).length = k := by simp [run]
theorem run_succ (a : Int) (k : Nat) : run a (k + 1) = run a k ++ [a + k] := by simp [run, List.range_succ]
theorem run_get (a : Int) (k i : Nat) (h : i < k) : (run a k).getD i 0 = a + i := by simp [run, List.getD_eq_getElem?_getD, h]
theorem run_rng (a : Int) (k : Nat) (h1 : -1099511627776 ≤ a) (h2 : a ≤ 1099511627776) (hk : k ≤ 200) : ∀ x ∈ run a k, -9223372036854775808 ≤ x ∧ x ≤ 9223372036854775807 := by
  intro x hx
  simp only [run, List.mem_map, List.mem_range] at hx
  obtain ⟨i, hi, rfl⟩ := hx
  omega
theorem run_side (a : Int) (k : Nat) (h2 : a ≤ 1099511627776) (hk : k ≤ 200) : sideB (run a k) = true := by
  simp only [sideB, decide_eq_true_eq, run_len]
  intro i hi
  rw [run_get _ _ _ (by omega), run_get _ _ _ (by omega)]
  omega
theorem getD_set (l : List Int) (k i : Nat) (x : Int) (hk : k < l.length) : (l.set k x).getD i 0 = if i = k then x else l.getD i 0 := by
  simp only [List.getD_eq_getElem?_getD, List.getElem?_set]
  by_cases h : i = k
  · subst h; simp [hk]
  · have h' : ¬ k = i := fun e => h e.symm
    simp [h, h']
theorem run_off (a : Int) (n k : Nat) (hk : k < n) (hn : 2 ≤ n) (x : Int) (hx : x = a + k + 3) : sideB ((run a n).set k x) = false := by
  subst hx
  have hl : k < (run a n).length := by rw [run_len]; exact hk
  simp only [sideB, decide_eq_false_iff_not, List.length_set, run_len]
  intro h
  by_cases h1 : k + 1 < n
  · have := (h k (by omega)).2
    rw [getD_set _ _ _ _ hl, getD_set _ _ _ _ hl, if_neg (by omega), if_pos rfl, run_get _ _ _ h1] at this
    omega
  · have := (h (k - 1) (by omega)).2
    rw [getD_set _ _ _ _ hl, getD_set _ _ _ _ hl, if_pos (by omega), if_neg (by omega), run_get _ _ _ (by omega)] at this
    omega

/-! ### The walk -/
theorem out (a n t : Int) (w : World) (h : n < 0 ∨ 200 < n ∨ a < -1099511627776 ∨ 1099511627776 < a ∨ t < 0) :
    Calls Try.prog 3 #[.int .i64 a, .int .i64 n, .int .i64 t] w fun e w' => e = .returned (.bool true) ∧ Pure w w' := by
  have go : ∀ (H : (n < 0) ∨ (¬ n < 0 ∧ 200 < n) ∨ (¬ n < 0 ∧ ¬ 200 < n ∧ a < -1099511627776) ∨ (¬ n < 0 ∧ ¬ 200 < n ∧ ¬ a < -1099511627776 ∧ 1099511627776 < a) ∨ (¬ n < 0 ∧ ¬ 200 < n ∧ ¬ a < -1099511627776 ∧ ¬ 1099511627776 < a ∧ t < 0)),
    Calls Try.prog 3 #[.int .i64 a, .int .i64 n, .int .i64 t] w fun e w' => e = .returned (.bool true) ∧ Pure w w' := by
    intro H
    rcases H with h1 | ⟨h1, h2⟩ | ⟨h1, h2, h3⟩ | ⟨h1, h2, h3, h4⟩ | ⟨h1, h2, h3, h4, h5⟩
    all_goals
      clear h
      go_enter Try.func3, Try.ntmps3
      go_wp2_with fail
      refine (first_any _).mono ?_
      rintro e w1 ⟨rfl, hp1⟩
      have P1 := Lib.hid hp1
      clear hp1
      go_wp2_with fail
      refine (first_any _).mono ?_
      rintro e w2 ⟨rfl, hp2⟩
      have P2 := Lib.hid hp2
      clear hp2
      go_wp2
      go_ret
      exact ⟨rfl, P1.out.then P2.out⟩
  exact go (by omega)

theorem inn (a t : Int) (n : Nat) (w : World) (hn : n ≤ 200) (h1 : -1099511627776 ≤ a) (h2 : a ≤ 1099511627776) (ht : 0 ≤ t) (ht2 : t ≤ 9223372036854775807) :
    Calls Try.prog 3 #[.int .i64 a, .int .i64 (n : Int), .int .i64 t] w fun e w' => e = .returned (.bool true) ∧ Pure w w' := by
  obtain ⟨i0, hi0, hz0, hz1, hz2⟩ := info_parts int_info
  go_enter Try.func3, Try.ntmps3
  go_wp2_with fail
  refine (first_any _).mono ?_
  rintro e w1 ⟨rfl, hp1⟩
  have P1 := Lib.hid hp1
  clear hp1
  go_wp2_with fail
  go_loopw [7, 8] (fun l i wr => ∃ k : Nat, k ≤ n ∧ i = .int .i64 k ∧ wr.ownsRow w.heap.size 3 1 l k (ints (run a k)) ∧ Pure w wr) (fun _ i _ => n - (intOf i).toNat)
  case atStart => exact ⟨0, Nat.zero_le _, rfl, World.ownsRow_nil _ _ _ _, P1.out⟩
  case round =>
    obtain ⟨k, hk, rfl, hown, hp⟩ := hrel
    obtain ⟨A, c, rfl⟩ := own_form hown
    have hsz : w.heap.size ≤ (wr.alloc (.cells #[.int .i64 (a + k)] 3)).heap.size := Nat.le_trans hp.size (by simp)
    have P := Lib.hid hp
    have OWN := Lib.hid hown
    clear hp hown
    by_cases hlt : k < n
    · go_wp2_with (at_builtin; refine wpList_app _ rfl (.tmp 36) (.tmp 40) _ rfl w.heap.size 3 i0 _ 1 8 Try.underlying23 hi0 hz0 hz1 hz2 rfl (by omega) (.slice A k c) k (ints (run a k)) rfl (OWN.out.alloc _) _ 1 1 (ints [a + k]) rfl (Src.one wr _ _ _ rfl) (ints_one _) (by simp only [maxLen]; omega) (by omega) hsz ?_; intro v1 w1 hown1 hg1 hat1; obtain ⟨A1, c1, rfl⟩ := own_form hown1; have OWN1 := Lib.hid hown1; have G1 := Lib.hid hg1; clear hown1 hg1 hat1)
      go_roundw
      case rel => exact ⟨k + 1, by omega, by go_num, by rw [run_succ, ints_append]; exact OWN1.out, (P.out.alloc _).grown G1.out (fun i hi e => by have := (OWN.out.lt i e).1; omega)⟩
      case measure => simp [intOf]; omega
    · obtain rfl : k = n := by omega
      have hs := SlI.of_own OWN.out (run_rng a k h1 h2 hn)
      have e1 := run_side a k h2 hn
      go_wp2_with fail
      refine (side_any _ _ wr _ hs).mono ?_
      rintro e w2 ⟨rfl, d2, rfl⟩
      rw [e1]
      clear hs
      go_wp2_with fail
      refine (side_any _ [] _ 0 (SlI.nil _ _)).mono ?_
      rintro e w3 ⟨rfl, d3, rfl⟩
      rw [show sideB [] = true from by decide]
      clear e1
      by_cases h2n : k < 2
      · go_wp2_with fail
        refine (first_any _).mono ?_
        rintro e w4 ⟨rfl, hp4⟩
        have P4 := Lib.hid hp4
        clear hp4
        go_wp2
        go_ret
        exact ⟨rfl, Pure.then (P.out.drewN _) P4.out⟩
      · have q1 : (0 : Int) < k := by omega
        have q2 := Int.emod_nonneg t (b := (k : Int)) (by omega)
        have q3 := Int.emod_lt_of_pos t q1
        obtain ⟨j, hj⟩ := Int.eq_ofNat_of_zero_le q2
        rw [hj] at q2 q3
        have hjk : j < k := by omega
        obtain ⟨g, cap, e, hg, hgl⟩ := OWN.out.form (by omega)
        injection e with e1 e2 e3
        subst e1; subst e3
        have OWN' := OWN.out
        have cj := OWN'.cellAt j (by omega)
        have ej : (ints (run a k))[j]? = some (.int .i64 (a + j)) := by simp [ints, run, hjk]
        rw [ej] at cj
        have fj := OWN'.frozenAt j
        have st := (OWN'.stored j (.int .i64 (a + j + 3)))
        have ST := Lib.hid st
        clear OWN' st ej
        go_wp2_with fail
        refine (first_any _).mono ?_
        rintro e w4 ⟨rfl, hp4⟩
        have P4 := Lib.hid hp4
        clear hp4
        go_wp2_with fail
        have OWN2 : (wr.drewN (d2 + d3)).ownsRow w.heap.size 3 1 (.slice (some ⟨g, 0, none⟩) k c) k (ints (run a k)) := OWN.out
        have OWN4 := P4.out.own (OWN2.stored j (.int .i64 (a + j + 3))).1 (fun _ _ f => f)
        rw [ints_set] at OWN4
        have hs4 := SlI.of_own OWN4 (fun x hx => by
          rcases List.mem_or_eq_of_mem_set hx with h | rfl
          · exact run_rng a k h1 h2 hn x h
          · omega)
        refine (side_any _ _ w4 _ hs4).mono ?_
        rintro e w5 ⟨rfl, d5, rfl⟩
        rw [run_off a k j hjk (by omega) _ rfl]
        clear hs4 OWN4 OWN2
        go_wp2
        go_ret
        exact ⟨rfl, (Pure.then ((P.out.drewN _).setCell (fun h => by have : g < w.heap.size := h; omega) _) P4.out).drewN _⟩

/-! ### The statement -/
theorem walk (a n t : Int) (w : World) (ht2 : t ≤ 9223372036854775807) : Calls Try.prog 3 #[.int .i64 a, .int .i64 n, .int .i64 t] w fun e w' => e = .returned (.bool true) ∧ Pure w w' := by
  by_cases h : n < 0 ∨ 200 < n ∨ a < -1099511627776 ∨ 1099511627776 < a ∨ t < 0
  · exact out a n t w h
  · obtain ⟨m, rfl⟩ := Int.eq_ofNat_of_zero_le (show 0 ≤ n by omega)
    exact inn a t m w (by omega) (by omega) (by omega) (by omega) ht2

set_option maxRecDepth 100000 in
theorem lifted (os : Os) (started : os.Started) (H : Type) (enc : TypeId × Value → H) :
    ReturnsInHanded {} Try.checked os 3 .any (Rows.stockSidesSpec.pre6 enc Try.prog Try.f3 Rows.stockSidesRow.domain false) (Rows.stockSidesSpec.post enc Try.prog Try.f3 false true false false) :=
  lift_law (C := Try.checked) own started (by kernel_rfl) Try.func3 laidOut (by kernel_rfl) rfl rfl Try.underlying4
    (fun ds h => by match ds, h with | [_, _, _], _ => rfl)
    (ChangeSpec.witness6 (enc := enc) (C := Try.checked) false ⟨#[], #[.int .i64 0, .int .i64 0, .int .i64 0], []⟩ 8 (by kernel_rfl) (by kernel_rfl) (by kernel_rfl) (by kernel_rfl))
    (fun W base args ds ps hval hA hlt => by
      have hA' : DataW.TrodAll enc Try.prog W 0 (fun _ => true) true Try.f3.params.toList args.toList ds ps := hA
      rw [Try.params3] at hA'
      have hval' : ∀ (j : Nat) t v, Try.f3.params[j]? = some t → args[j]? = some v → Value.okWide Try.prog W .any base t v := hval
      rw [Try.params3] at hval'
      obtain ⟨v0, vs0, d0, ds0, p0, q0, hargs, rfl, rfl, h0, r0⟩ := trodAll_cons hA'
      obtain ⟨v1, vs1, d1, ds1, p1, q1, rfl, rfl, rfl, h1, r1⟩ := trodAll_cons r0
      obtain ⟨v2, vs2, d2, ds2, p2, q2, rfl, rfl, rfl, h2, r2⟩ := trodAll_cons r1
      obtain ⟨rfl, rfl, rfl⟩ := trodAll_nil r2
      obtain rfl : args = #[v0, v1, v2] := by cases args; simp_all
      obtain ⟨a0, rfl, rfl, rfl, w0⟩ := open_int Try.underlying3 (hval' 0 3 v0 rfl rfl) h0
      obtain ⟨a1, rfl, rfl, rfl, w1⟩ := open_int Try.underlying3 (hval' 1 3 v1 rfl rfl) h1
      obtain ⟨a2, rfl, rfl, rfl, w2⟩ := open_int Try.underlying3 (hval' 2 3 v2 rfl rfl) h2
      exact (walk a0 a1 a2 W (by simp [Lit.wf, IntKind.max, IntKind.min, IntKind.signed, IntKind.bits] at w2; omega)).mono fun e W' ⟨he, hp⟩ => ⟨he, hp.below⟩)

/-- The statement. -/
theorem proved : Rows.StockSidesSaid :=
  OpenClaim.holds_of_wide 3 Try.f3 rfl rfl rfl rfl rfl rfl rfl ⟨rfl, rfl, rfl, rfl, rfl⟩ rfl rfl rfl rfl rfl (by kernel_rfl) Try.func3 (by kernel_rfl)
    (of_decide_eq_true (by kernel_rfl)) (by unfold Func.isWrapper; first | (rw [if_pos (by decide +kernel)]; kernel_rfl) | (rw [if_neg (by decide +kernel)]; exact ⟨rfl, rfl⟩))
    (fun os started H enc _ => lifted os started H enc)
#print axioms proved

end Go.Proofs.Ytlnhehjdicpeoaa.stockSides
