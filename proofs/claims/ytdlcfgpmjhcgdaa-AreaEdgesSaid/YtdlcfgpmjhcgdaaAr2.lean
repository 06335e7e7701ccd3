/-
  AreaEdges: a step beyond a region's end is an error, its last word is not; regions follow one upon another. For every input.
-/
import Derived.Test.YtdlcfgpmjhcgdaaAr1
namespace Go.Proofs.Ytdlcfgpmjhcgdaa.areaEdges
open Go.RowKit Go.ChangeShapes Go.WideShapes Go.ChangeAt

set_option maxRecDepth 100000 in
set_option maxHeartbeats 2000000 in
theorem main (c : Cn) (v : Value) (l : List Sh) (w : World) (hl : ShsR w w.heap.size v l) :
    Calls Try.prog 6 #[cnV c v] w fun e w' => e = .returned (.bool true) ∧ Pure w w' := by
  have HL := Lib.hid (fun (w' : World) (hp : Pure w w') => hl.pure hp)
  obtain ⟨A, cc, rfl⟩ : ∃ A cc, v = .slice A l.length cc := by
    obtain ⟨⟨A, cc, rfl, _⟩, _⟩ := hl
    exact ⟨A, cc, rfl⟩
  clear hl
  go_enter Try.func6, Try.ntmps6
  go_wp2_with fail
  have hr := Row.new w c (.slice A l.length cc)
  generalize w.alloc _ = W at hr ⊢
  generalize w.heap.size = X at hr ⊢
  have R := Lib.hid hr
  clear hr
  refine (first_any _).mono ?_
  rintro e w1 ⟨rfl, hp1⟩
  have R1 := Lib.hid (R.out.keep hp1)
  clear hp1
  obtain ⟨c0, c1, c2, c3, c4, c5, c6, c7, c8, _⟩ := R1.out.cells
  go_wp2_with fail
  refine (few_tells c _ l _ (HL.out _ R1.out.2.2)).mono ?_
  rintro e w2 ⟨⟨b, rfl, -⟩, hp2⟩
  have R2 := Lib.hid (R1.out.keep hp2)
  clear hp2 c0 c1 c2 c3 c4 c5 c6 c7 c8
  obtain ⟨c0, c1, c2, c3, c4, c5, c6, c7, c8, _⟩ := R2.out.cells
  cases b with
  | false =>
    go_wp2_with fail
    refine (first_any _).mono ?_
    rintro e w8 ⟨rfl, hp8⟩
    have P8 := Lib.hid (R2.out.2.2.then hp8)
    clear hp8
    go_wp2
    go_ret
    exact ⟨rfl, P8.out⟩
  | true =>
    go_wp2_with fail
    refine (check_any c _ l _ (HL.out _ R2.out.2.2)).mono ?_
    rcases check_cases c l with hk | hk | hk
    case inr.inl | inr.inr =>
      rw [hk]
      rintro e w3 ⟨rfl, hp3⟩
      have R3 := Lib.hid (R2.out.keep hp3)
      clear hp3
      go_wp2_with fail
      refine (first_any _).mono ?_
      rintro e w8 ⟨rfl, hp8⟩
      have P8 := Lib.hid (R3.out.2.2.then hp8)
      clear hp8
      go_wp2
      go_ret
      exact ⟨rfl, P8.out⟩
    have HK := Lib.hid hk
    rw [hk]
    rintro e w3 ⟨rfl, hp3⟩
    have R3 := Lib.hid (R2.out.keep hp3)
    clear hp3 hk c0 c1 c2 c3 c4 c5 c6 c7 c8
    obtain ⟨c0, c1, c2, c3, c4, c5, c6, c7, c8, _⟩ := R3.out.cells
    obtain ⟨b0, b1, b2, b3, b4, b5⟩ := check_bd HK.out
    have hfa := fun (w' : World) (hp : Pure w w') => (frag_in c (.slice A l.length cc) l (c.frags - 1) 7 w' (HL.out _ hp) HK.out (by omega) (by omega) (by omega) (by omega)).mono (fun _ _ ⟨he, hq⟩ => (⟨he.trans (ret_2 (show 8 * c.frags - 1 = _ from by omega) rfl), hq⟩ : _ = Ending.returned (.tuple #[.int .i64 (8 * c.frags - 1), .int .i64 0]) ∧ Pure w' _))
    have HFA := Lib.hid hfa
    clear hfa
    go_wp2_with fail
    refine (HFA.out _ R3.out.2.2).mono ?_
    rintro e wR4 ⟨rfl, hp⟩
    have R4 := Lib.hid (R3.out.keep hp)
    clear hp c0 c1 c2 c3 c4 c5 c6 c7 c8
    obtain ⟨c0, c1, c2, c3, c4, c5, c6, c7, c8, _⟩ := R4.out.cells
    go_wp2_with fail
    refine (frag_out c _ l c.frags 0 _ (HL.out _ R4.out.2.2) (.inr (.inr (.inl (Int.le_refl _))))).mono ?_
    rintro e wR5 ⟨rfl, hp⟩
    have R5 := Lib.hid (R4.out.keep hp)
    clear hp c0 c1 c2 c3 c4 c5 c6 c7 c8
    obtain ⟨c0, c1, c2, c3, c4, c5, c6, c7, c8, _⟩ := R5.out.cells
    go_wp2_with fail
    refine (frag_out c _ l 0 8 _ (HL.out _ R5.out.2.2) (.inr (.inr (.inr (.inr (Int.le_refl _)))))).mono ?_
    rintro e wR6 ⟨rfl, hp⟩
    have R6 := Lib.hid (R5.out.keep hp)
    clear hp c0 c1 c2 c3 c4 c5 c6 c7 c8
    obtain ⟨c0, c1, c2, c3, c4, c5, c6, c7, c8, _⟩ := R6.out.cells
    go_wp2_with fail
    go_loopw [9, 10] (fun n i wr => ∃ k : Nat, k ≤ 2 ∧ i = .int .i64 k ∧ n = .int .i64 (8 * c.frags + k * c.spine) ∧ Row w X c (.slice A l.length cc) wr) (fun _ i _ => 2 - (intOf i).toNat)
    case atStart => exact ⟨0, by omega, by first | rfl | simp, by simp, R6.out⟩
    case round =>
      clear c0 c1 c2 c3 c4 c5 c6 c7 c8
      obtain ⟨k, hk, rfl, rfl, hrel⟩ := hrel
      have RR := Lib.hid hrel
      clear hrel
      obtain ⟨c0, c1, c2, c3, c4, c5, c6, c7, c8, _⟩ := RR.out.cells
      rcases (by omega : k = 0 ∨ k = 1 ∨ k = 2) with rfl | rfl | rfl
      · rw [show 8 * c.frags + ((0 : Nat) : Int) * c.spine = 8 * c.frags from by omega]
        by_cases hs : 0 < c.spine
        · have hsi := fun (w' : World) (hp : Pure w w') => (spine_in c (.slice A l.length cc) l 0 0 w' (HL.out _ hp) HK.out (by omega) (by omega) (by omega)).mono (fun _ _ ⟨he, hq⟩ => (⟨he.trans (ret_2 (show 8 * c.frags = _ from by omega) rfl), hq⟩ : _ = Ending.returned (.tuple #[.int .i64 (8 * c.frags), .int .i64 0]) ∧ Pure w' _))
          have HSI := Lib.hid hsi
          clear hsi
          go_wp2_with fail
          refine (HSI.out _ RR.out.2.2).mono ?_
          rintro e wQ1 ⟨rfl, hp⟩
          have Q1 := Lib.hid (RR.out.keep hp)
          clear hp c0 c1 c2 c3 c4 c5 c6 c7 c8
          obtain ⟨c0, c1, c2, c3, c4, c5, c6, c7, c8, _⟩ := Q1.out.cells
          go_wp2_with fail
          refine (spine_out c _ l 0 c.spine _ (HL.out _ Q1.out.2.2) (.inr (.inr (.inr (Int.le_refl _))))).mono ?_
          rintro e wQ2 ⟨rfl, hp⟩
          have Q2 := Lib.hid (Q1.out.keep hp)
          clear hp c0 c1 c2 c3 c4 c5 c6 c7 c8
          obtain ⟨c0, c1, c2, c3, c4, c5, c6, c7, c8, _⟩ := Q2.out.cells
          go_wp2_with fail
          go_roundw
          case rel => exact ⟨1, by omega, by first | rfl | simp, by rw [show 8 * c.frags + ((1 : Nat) : Int) * c.spine = 8 * c.frags + c.spine from by omega], Q2.out⟩
          case measure => simp [intOf]
        · have hso := fun (w' : World) (hp : Pure w w') => spine_out c (.slice A l.length cc) l 0 0 w' (HL.out _ hp) (.inr (.inr (.inr (by omega))))
          have HSO := Lib.hid hso
          clear hso
          go_wp2_with fail
          refine (HSO.out _ RR.out.2.2).mono ?_
          rintro e wQ1 ⟨rfl, hp⟩
          have Q1 := Lib.hid (RR.out.keep hp)
          clear hp c0 c1 c2 c3 c4 c5 c6 c7 c8
          obtain ⟨c0, c1, c2, c3, c4, c5, c6, c7, c8, _⟩ := Q1.out.cells
          go_wp2_with fail
          refine (spine_out c _ l 0 c.spine _ (HL.out _ Q1.out.2.2) (.inr (.inr (.inr (Int.le_refl _))))).mono ?_
          rintro e wQ2 ⟨rfl, hp⟩
          have Q2 := Lib.hid (Q1.out.keep hp)
          clear hp c0 c1 c2 c3 c4 c5 c6 c7 c8
          obtain ⟨c0, c1, c2, c3, c4, c5, c6, c7, c8, _⟩ := Q2.out.cells
          go_wp2_with fail
          go_roundw
          case rel => exact ⟨1, by omega, by first | rfl | simp, by rw [show 8 * c.frags + ((1 : Nat) : Int) * c.spine = 8 * c.frags + c.spine from by omega], Q2.out⟩
          case measure => simp [intOf]
      · rw [show 8 * c.frags + ((1 : Nat) : Int) * c.spine = 8 * c.frags + c.spine from by omega]
        by_cases hs : 0 < c.spine
        · have hsi := fun (w' : World) (hp : Pure w w') => (spine_in c (.slice A l.length cc) l 1 0 w' (HL.out _ hp) HK.out (by omega) (by omega) (by omega)).mono (fun _ _ ⟨he, hq⟩ => (⟨he.trans (ret_2 (show 8 * c.frags + c.spine = _ from by omega) rfl), hq⟩ : _ = Ending.returned (.tuple #[.int .i64 (8 * c.frags + c.spine), .int .i64 0]) ∧ Pure w' _))
          have HSI := Lib.hid hsi
          clear hsi
          go_wp2_with fail
          refine (HSI.out _ RR.out.2.2).mono ?_
          rintro e wQ1 ⟨rfl, hp⟩
          have Q1 := Lib.hid (RR.out.keep hp)
          clear hp c0 c1 c2 c3 c4 c5 c6 c7 c8
          obtain ⟨c0, c1, c2, c3, c4, c5, c6, c7, c8, _⟩ := Q1.out.cells
          go_wp2_with fail
          refine (spine_out c _ l 1 c.spine _ (HL.out _ Q1.out.2.2) (.inr (.inr (.inr (Int.le_refl _))))).mono ?_
          rintro e wQ2 ⟨rfl, hp⟩
          have Q2 := Lib.hid (Q1.out.keep hp)
          clear hp c0 c1 c2 c3 c4 c5 c6 c7 c8
          obtain ⟨c0, c1, c2, c3, c4, c5, c6, c7, c8, _⟩ := Q2.out.cells
          go_wp2_with fail
          go_roundw
          case rel => exact ⟨2, by omega, by first | rfl | simp, by rw [show 8 * c.frags + ((2 : Nat) : Int) * c.spine = 8 * c.frags + c.spine + c.spine from by omega], Q2.out⟩
          case measure => simp [intOf]
        · have hso := fun (w' : World) (hp : Pure w w') => spine_out c (.slice A l.length cc) l 1 0 w' (HL.out _ hp) (.inr (.inr (.inr (by omega))))
          have HSO := Lib.hid hso
          clear hso
          go_wp2_with fail
          refine (HSO.out _ RR.out.2.2).mono ?_
          rintro e wQ1 ⟨rfl, hp⟩
          have Q1 := Lib.hid (RR.out.keep hp)
          clear hp c0 c1 c2 c3 c4 c5 c6 c7 c8
          obtain ⟨c0, c1, c2, c3, c4, c5, c6, c7, c8, _⟩ := Q1.out.cells
          go_wp2_with fail
          refine (spine_out c _ l 1 c.spine _ (HL.out _ Q1.out.2.2) (.inr (.inr (.inr (Int.le_refl _))))).mono ?_
          rintro e wQ2 ⟨rfl, hp⟩
          have Q2 := Lib.hid (Q1.out.keep hp)
          clear hp c0 c1 c2 c3 c4 c5 c6 c7 c8
          obtain ⟨c0, c1, c2, c3, c4, c5, c6, c7, c8, _⟩ := Q2.out.cells
          go_wp2_with fail
          go_roundw
          case rel => exact ⟨2, by omega, by first | rfl | simp, by rw [show 8 * c.frags + ((2 : Nat) : Int) * c.spine = 8 * c.frags + c.spine + c.spine from by omega], Q2.out⟩
          case measure => simp [intOf]
      · rw [show 8 * c.frags + ((2 : Nat) : Int) * c.spine = 8 * c.frags + c.spine + c.spine from by omega]
        by_cases hs : 0 < c.globals
        · have hsi := fun (w' : World) (hp : Pure w w') => (global_in c (.slice A l.length cc) l 0 w' (HL.out _ hp) HK.out (by omega) (by omega)).mono (fun _ _ ⟨he, hq⟩ => (⟨he.trans (ret_2 (show 8 * c.frags + c.spine + c.spine = _ from by omega) rfl), hq⟩ : _ = Ending.returned (.tuple #[.int .i64 (8 * c.frags + c.spine + c.spine), .int .i64 0]) ∧ Pure w' _))
          have HSI := Lib.hid hsi
          clear hsi
          go_wp2_with fail
          refine (HSI.out _ RR.out.2.2).mono ?_
          rintro e wQ1 ⟨rfl, hp⟩
          have Q1 := Lib.hid (RR.out.keep hp)
          clear hp c0 c1 c2 c3 c4 c5 c6 c7 c8
          obtain ⟨c0, c1, c2, c3, c4, c5, c6, c7, c8, _⟩ := Q1.out.cells
          go_wp2_with fail
          refine (global_out c _ l c.globals _ (HL.out _ Q1.out.2.2) (.inr (.inr (Int.le_refl _)))).mono ?_
          rintro e wQ2 ⟨rfl, hp⟩
          have Q2 := Lib.hid (Q1.out.keep hp)
          clear hp c0 c1 c2 c3 c4 c5 c6 c7 c8
          obtain ⟨c0, c1, c2, c3, c4, c5, c6, c7, c8, _⟩ := Q2.out.cells
          go_wp2_with fail
          refine (spine_out c _ l 2 0 _ (HL.out _ Q2.out.2.2) (.inr (.inl (by decide)))).mono ?_
          rintro e wQ3 ⟨rfl, hp⟩
          have Q3 := Lib.hid (Q2.out.keep hp)
          clear hp c0 c1 c2 c3 c4 c5 c6 c7 c8
          obtain ⟨c0, c1, c2, c3, c4, c5, c6, c7, c8, _⟩ := Q3.out.cells
          go_wp2_with fail
          refine (first_any _).mono ?_
          rintro e wQ4 ⟨rfl, hp⟩
          have Q4 := Lib.hid (Q3.out.keep hp)
          clear hp c0 c1 c2 c3 c4 c5 c6 c7 c8
          obtain ⟨c0, c1, c2, c3, c4, c5, c6, c7, c8, _⟩ := Q4.out.cells
          go_wp2_with fail
          go_ret
          exact ⟨rfl, Q4.out.2.2⟩
        · have hsi := fun (w' : World) (hp : Pure w w') => global_out c (.slice A l.length cc) l 0 w' (HL.out _ hp) (.inr (.inr (by omega)))
          have HSI := Lib.hid hsi
          clear hsi
          go_wp2_with fail
          refine (HSI.out _ RR.out.2.2).mono ?_
          rintro e wQ1 ⟨rfl, hp⟩
          have Q1 := Lib.hid (RR.out.keep hp)
          clear hp c0 c1 c2 c3 c4 c5 c6 c7 c8
          obtain ⟨c0, c1, c2, c3, c4, c5, c6, c7, c8, _⟩ := Q1.out.cells
          go_wp2_with fail
          refine (global_out c _ l c.globals _ (HL.out _ Q1.out.2.2) (.inr (.inr (Int.le_refl _)))).mono ?_
          rintro e wQ2 ⟨rfl, hp⟩
          have Q2 := Lib.hid (Q1.out.keep hp)
          clear hp c0 c1 c2 c3 c4 c5 c6 c7 c8
          obtain ⟨c0, c1, c2, c3, c4, c5, c6, c7, c8, _⟩ := Q2.out.cells
          go_wp2_with fail
          refine (spine_out c _ l 2 0 _ (HL.out _ Q2.out.2.2) (.inr (.inl (by decide)))).mono ?_
          rintro e wQ3 ⟨rfl, hp⟩
          have Q3 := Lib.hid (Q2.out.keep hp)
          clear hp c0 c1 c2 c3 c4 c5 c6 c7 c8
          obtain ⟨c0, c1, c2, c3, c4, c5, c6, c7, c8, _⟩ := Q3.out.cells
          go_wp2_with fail
          refine (first_any _).mono ?_
          rintro e wQ4 ⟨rfl, hp⟩
          have Q4 := Lib.hid (Q3.out.keep hp)
          clear hp c0 c1 c2 c3 c4 c5 c6 c7 c8
          obtain ⟨c0, c1, c2, c3, c4, c5, c6, c7, c8, _⟩ := Q4.out.cells
          go_wp2_with fail
          go_ret
          exact ⟨ret_b (by simp; omega), Q4.out.2.2⟩

theorem open_0 {H : Type} {enc : TypeId × Value → H} {W : World} {b0 base : Nat} {v : Value} {d : DataW H} {ps : List MemPlace} {r : Reach}
    (hval : Value.okWide Try.prog W r b0 24 v) (h : DataW.Trod enc Try.prog W base (fun _ => true) true 24 v d ps) : ∃ x : Cn × Value × List Sh, v = cnV x.1 x.2.1 ∧ ShsR W W.heap.size x.2.1 x.2.2 := open_conf hval h

theorem walk (w : World) (v : Value) (x : Cn × Value × List Sh) (h : v = cnV x.1 x.2.1 ∧ ShsR w w.heap.size x.2.1 x.2.2) :
    Calls Try.prog 6 #[v] w fun e w' => e = .returned (.bool true) ∧ Pure w w' := by
  obtain ⟨rfl, hs⟩ := h
  exact main x.1 x.2.1 x.2.2 w hs

set_option maxRecDepth 100000 in
theorem lifted (os : Os) (started : os.Started) (H : Type) (enc : TypeId × Value → H) :
    ReturnsInHanded {} Try.checked os 6 .any (Rows.areaEdgesSpec.pre6 enc Try.prog Try.f6 Rows.areaEdgesRow.domain false) (Rows.areaEdgesSpec.post enc Try.prog Try.f6 false true false false) :=
  lift_law (C := Try.checked) own started (by kernel_rfl) Try.func6 laidOut (by kernel_rfl) rfl rfl Try.underlying4
    (fun ds h => by match ds, h with | [_], _ => rfl)
    (ChangeSpec.witness6 (enc := enc) (C := Try.checked) false ⟨#[], #[.agg #[.int .i64 0, .int .i64 0, .int .i64 0, .int .i64 0, .int .i64 0, .int .i64 0, .int .i64 0, .int .i64 0, .slice none 0 0]], []⟩ 8 (by kernel_rfl) (by kernel_rfl) (by kernel_rfl) (by kernel_rfl))
    (fun W base args ds ps hval hA hlt => by
      have hA' : DataW.TrodAll enc Try.prog W 0 (fun _ => true) true Try.f6.params.toList args.toList ds ps := hA
      rw [Try.params6] at hA'
      have hval' : ∀ (j : Nat) t v, Try.f6.params[j]? = some t → args[j]? = some v → Value.okWide Try.prog W .any base t v := hval
      rw [Try.params6] at hval'
      obtain ⟨v0, vs0, d0, ds0, p0, q0, hargs, rfl, rfl, h0, r0⟩ := trodAll_cons hA'
      obtain ⟨rfl, rfl, rfl⟩ := trodAll_nil r0
      obtain rfl : args = #[v0] := by cases args; simp_all
      obtain ⟨x0, s0⟩ := open_0 (hval' 0 24 v0 rfl rfl) h0
      exact (walk W _ x0 s0).mono fun e W' ⟨he, hp⟩ => ⟨he, hp.below⟩)

/-- The statement. -/
theorem proved : Rows.AreaEdgesSaid :=
  OpenClaim.holds_of_wide 6 Try.f6 rfl rfl rfl rfl rfl rfl rfl ⟨rfl, rfl, rfl, rfl, rfl⟩ rfl rfl rfl rfl rfl (by kernel_rfl) Try.func6 (by kernel_rfl)
    (of_decide_eq_true (by kernel_rfl)) (by unfold Func.isWrapper; first | (rw [if_pos (by decide +kernel)]; kernel_rfl) | (rw [if_neg (by decide +kernel)]; exact ⟨rfl, rfl⟩))
    (fun os started H enc _ => lifted os started H enc)
#print axioms proved

end Go.Proofs.Ytdlcfgpmjhcgdaa.areaEdges
