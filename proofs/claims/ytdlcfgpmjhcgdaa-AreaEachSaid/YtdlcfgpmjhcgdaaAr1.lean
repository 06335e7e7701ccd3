/-
  Chapter 5's own 'first', and AreaFrags: a fragment's words stand side by side. For every input.
-/
import Derived.Test.YtdlcfgpmjhcgdaaArea
import Derived.IntWalk
namespace Go.Proofs.Ytdlcfgpmjhcgdaa
open Go.RowKit

abbrev least5 : Cn := ⟨4, 3, 1, 1, 1, 0, 1, 0⟩
theorem check5 (v : Value) : checkI least5 [⟨false, v, []⟩] = 0 := rfl

theorem first_any (w : World) : Calls Try.prog 7 #[] w fun e w' => e = .returned (.bool true) ∧ Pure w w' := by
  have hl := Lib.hid (one_shape false (.slice none 0 0) [] w 40 ⟨none, 0, by first | rfl | simp [bools], by simp [bools], by simp, by simp [bools]⟩)
  have P0 := Lib.hid ((Only.refl (fun _ => False) w).alloc (.cells #[.bool false, .slice none 0 0] 40))
  go_enter Try.func7, Try.ntmps7
  go_wp2_with fail
  have hr := Row.new (w.alloc (.cells #[.bool false, .slice none 0 0] 40)) least5 (.slice (some ⟨w.heap.size, 0, none⟩) 1 1)
  rw [show (w.alloc (.cells #[.bool false, .slice none 0 0] 40)).heap.size = w.heap.size + 1 from by simp] at hr
  generalize (w.alloc (.cells #[.bool false, .slice none 0 0] 40)).alloc _ = W1 at hr ⊢
  generalize w.heap.size + 1 = X at hr ⊢
  generalize w.alloc (.cells #[.bool false, .slice none 0 0] 40) = W0 at *
  generalize w.heap.size = Y at hl hr ⊢
  have R1 := Lib.hid hr
  clear hr
  refine (frag_in least5 _ [⟨false, .slice none 0 0, []⟩] 2 3 _ (hl.out.pure R1.out.2.2) (check5 _) (by decide) (by decide) (by decide) (by decide)).mono ?_
  rintro e w1 ⟨rfl, hp1⟩
  have R2 := Lib.hid (R1.out.keep hp1)
  clear hp1
  obtain ⟨c0, c1, c2, c3, c4, c5, c6, c7, c8, _⟩ := R2.out.cells
  go_wp2_with fail
  refine (of_any least5 _ [⟨false, .slice none 0 0, []⟩] 19 _ (hl.out.pure R2.out.2.2) (by omega)).mono ?_
  rw [show ofI (z0 least5 [⟨false, .slice none 0 0, []⟩]) (z1 least5 [⟨false, .slice none 0 0, []⟩]) (z3 least5 [⟨false, .slice none 0 0, []⟩]) 19 = (1, 2, 3) from by decide]
  rintro e w2 ⟨rfl, hp2⟩
  have R3 := Lib.hid (R2.out.keep hp2)
  clear hp2 c0 c1 c2 c3 c4 c5 c6 c7 c8
  obtain ⟨c0, c1, c2, c3, c4, c5, c6, c7, c8, _⟩ := R3.out.cells
  go_wp2_with fail
  refine (words_any least5 _ [⟨false, .slice none 0 0, []⟩] _ (hl.out.pure R3.out.2.2)).mono ?_
  rw [show z0 least5 [⟨false, .slice none 0 0, []⟩] + z1 least5 [⟨false, .slice none 0 0, []⟩] + z1 least5 [⟨false, .slice none 0 0, []⟩] + z3 least5 [⟨false, .slice none 0 0, []⟩] = 39 from by decide]
  rintro e w3 ⟨rfl, hp3⟩
  have P3 := Lib.hid (Pure.then P0.out (R3.out.2.2.then hp3))
  clear hp3
  go_wp2
  go_ret
  exact ⟨rfl, P3.out⟩

/-! ### Words of two configurations -/
/-- How many words there are. -/
def wordsN (f s g : Int) : Int := 8 * f + 2 * s + g
theorem words_is (f s g t lo ca st low : Int) (v : Value) (l : List Sh) (w : World) (hl : ShsR w w.heap.size v l) (hk : Hid (checkI ⟨f, s, g, t, lo, ca, st, low⟩ l = 0)) :
    Calls Try.prog 12 #[.agg #[.int .i64 f, .int .i64 s, .int .i64 g, .int .i64 t, .int .i64 lo, .int .i64 ca, .int .i64 st, .int .i64 low, v]] w fun e w' => e = .returned (.int .i64 (wordsN f s g)) ∧ Pure w w' :=
  (words_any ⟨f, s, g, t, lo, ca, st, low⟩ v l w hl).mono fun _ _ ⟨he, hp⟩ => ⟨he.trans (ret_i (by have := z_ok hk.out; dsimp only at this; unfold wordsN; omega)), hp⟩
/-- A configuration in block X, another one with no globals in block Y. -/
def Duo (w : World) (X Y : Nat) (c : Cn) (v : Value) (w' : World) : Prop :=
  w'.cell? ⟨X, 0, none⟩ = some (.int .i64 c.frags) ∧ w'.cell? ⟨X, 1, none⟩ = some (.int .i64 c.spine) ∧ w'.cell? ⟨X, 2, none⟩ = some (.int .i64 c.globals) ∧ w'.cell? ⟨X, 3, none⟩ = some (.int .i64 c.threads) ∧ w'.cell? ⟨X, 4, none⟩ = some (.int .i64 c.locals) ∧ w'.cell? ⟨X, 5, none⟩ = some (.int .i64 c.cache) ∧ w'.cell? ⟨X, 6, none⟩ = some (.int .i64 c.stack) ∧ w'.cell? ⟨X, 7, none⟩ = some (.int .i64 c.low) ∧ w'.cell? ⟨X, 8, none⟩ = some (v) ∧
  w'.cell? ⟨Y, 0, none⟩ = some (.int .i64 c.frags) ∧ w'.cell? ⟨Y, 1, none⟩ = some (.int .i64 c.spine) ∧ w'.cell? ⟨Y, 2, none⟩ = some (.int .i64 0) ∧ w'.cell? ⟨Y, 3, none⟩ = some (.int .i64 c.threads) ∧ w'.cell? ⟨Y, 4, none⟩ = some (.int .i64 c.locals) ∧ w'.cell? ⟨Y, 5, none⟩ = some (.int .i64 c.cache) ∧ w'.cell? ⟨Y, 6, none⟩ = some (.int .i64 c.stack) ∧ w'.cell? ⟨Y, 7, none⟩ = some (.int .i64 c.low) ∧ w'.cell? ⟨Y, 8, none⟩ = some (v) ∧ Pure w w'
theorem Duo.keep {w : World} {X Y : Nat} {c : Cn} {v : Value} (a b : World) (h : Duo w X Y c v a) (k : Pure a b) : Duo w X Y c v b := by
  obtain ⟨x0, x1, x2, x3, x4, x5, x6, x7, x8, y0, y1, y2, y3, y4, y5, y6, y7, y8, h9⟩ := h
  exact ⟨k.keep x0, k.keep x1, k.keep x2, k.keep x3, k.keep x4, k.keep x5, k.keep x6, k.keep x7, k.keep x8, k.keep y0, k.keep y1, k.keep y2, k.keep y3, k.keep y4, k.keep y5, k.keep y6, k.keep y7, k.keep y8, h9.then k⟩
theorem Duo.pure {w w1 : World} {X Y : Nat} {c : Cn} {v : Value} (h : Duo w X Y c v w1) : Pure w w1 := h.2.2.2.2.2.2.2.2.2.2.2.2.2.2.2.2.2.2
theorem no_globals {c : Cn} {l : List Sh} (h : checkI c l = 0) : checkI ⟨c.frags, c.spine, 0, c.threads, c.locals, c.cache, c.stack, c.low⟩ l = 0 := by
  obtain ⟨a, b, d⟩ := check_zero h
  have a' : (tests ⟨c.frags, c.spine, 0, c.threads, c.locals, c.cache, c.stack, c.low⟩).all id = true := by
    simp only [tests, withinB, List.all_cons, List.all_nil, id, Bool.and_eq_true, decide_eq_true_eq, Bool.and_true, and_assoc] at a ⊢
    simp_all
  rw [checkI, if_neg (by rw [a']; simp), if_neg b, if_neg (by rw [d]; simp)]

namespace areaFrags
open Go.ChangeShapes Go.WideShapes Go.ChangeAt

set_option maxRecDepth 100000 in
set_option maxHeartbeats 2000000 in
theorem main (c : Cn) (v : Value) (l : List Sh) (i : Int) (w : World) (hl : ShsR w w.heap.size v l) :
    Calls Try.prog 3 #[cnV c v, .int .i64 i] w fun e w' => e = .returned (.bool true) ∧ Pure w w' := by
  have HL := Lib.hid (fun (w' : World) (hp : Pure w w') => hl.pure hp)
  obtain ⟨A, cc, rfl⟩ : ∃ A cc, v = .slice A l.length cc := by
    obtain ⟨⟨A, cc, rfl, _⟩, _⟩ := hl
    exact ⟨A, cc, rfl⟩
  clear hl
  go_enter Try.func3, Try.ntmps3
  go_wp2_with fail
  have hr := Row.new w c (.slice A l.length cc)
  generalize w.alloc _ = W at hr ⊢
  generalize w.heap.size = X at hr ⊢
  have R := Lib.hid hr
  clear hr
  refine (first_any _).mono ?_
  rintro e w1 ⟨rfl, hp1⟩
  have R1 := Lib.hid (R.out.keep hp1)
  clear hp1
  obtain ⟨c0, c1, c2, c3, c4, c5, c6, c7, c8, _⟩ := R1.out.cells
  go_wp2_with fail
  refine (few_tells c _ l _ (HL.out _ R1.out.2.2)).mono ?_
  rintro e w2 ⟨⟨b, rfl, -⟩, hp2⟩
  have R2 := Lib.hid (R1.out.keep hp2)
  clear hp2 c0 c1 c2 c3 c4 c5 c6 c7 c8
  obtain ⟨c0, c1, c2, c3, c4, c5, c6, c7, c8, _⟩ := R2.out.cells
  cases b with
  | false =>
    go_wp2_with fail
    refine (first_any _).mono ?_
    rintro e w8 ⟨rfl, hp8⟩
    have P8 := Lib.hid (R2.out.2.2.then hp8)
    clear hp8
    go_wp2
    go_ret
    exact ⟨rfl, P8.out⟩
  | true =>
    go_wp2_with fail
    refine (check_any c _ l _ (HL.out _ R2.out.2.2)).mono ?_
    rcases check_cases c l with hk | hk | hk
    case inr.inl | inr.inr =>
      rw [hk]
      rintro e w3 ⟨rfl, hp3⟩
      have R3 := Lib.hid (R2.out.keep hp3)
      clear hp3
      go_wp2_with fail
      refine (first_any _).mono ?_
      rintro e w8 ⟨rfl, hp8⟩
      have P8 := Lib.hid (R3.out.2.2.then hp8)
      clear hp8
      go_wp2
      go_ret
      exact ⟨rfl, P8.out⟩
    have HK := Lib.hid hk
    rw [hk]
    rintro e w3 ⟨rfl, hp3⟩
    have R3 := Lib.hid (R2.out.keep hp3)
    clear hp3 hk c0 c1 c2 c3 c4 c5 c6 c7 c8
    obtain ⟨c0, c1, c2, c3, c4, c5, c6, c7, c8, _⟩ := R3.out.cells
    obtain ⟨b0, b1, b2, b3, b4, b5⟩ := check_bd HK.out
    rcases (by omega : i < 0 ∨ (0 ≤ i ∧ c.frags ≤ i) ∨ (0 ≤ i ∧ i < c.frags)) with h | ⟨h0, h1⟩ | ⟨h0, h1⟩
    · go_wp2_with fail
      refine (first_any _).mono ?_
      rintro e w8 ⟨rfl, hp8⟩
      have P8 := Lib.hid (R3.out.2.2.then hp8)
      clear hp8
      go_wp2
      go_ret
      exact ⟨rfl, P8.out⟩
    · go_wp2_with fail
      refine (first_any _).mono ?_
      rintro e w8 ⟨rfl, hp8⟩
      have P8 := Lib.hid (R3.out.2.2.then hp8)
      clear hp8
      go_wp2
      go_ret
      exact ⟨rfl, P8.out⟩
    · have ib : i ≤ 1023 := by omega
      go_wp2_with fail
      go_loopw [5] (fun n wr => ∃ k : Int, 0 ≤ k ∧ k ≤ 8 ∧ n = .int .i64 k ∧ Row w X c (.slice A l.length cc) wr) (fun n _ => (8 - intOf n).toNat)
      case atStart => exact ⟨0, by omega, by omega, rfl, R3.out⟩
      case round =>
        clear c0 c1 c2 c3 c4 c5 c6 c7 c8
        obtain ⟨k, k0, k8, rfl, hrel⟩ := hrel
        have RR := Lib.hid hrel
        clear hrel
        obtain ⟨c0, c1, c2, c3, c4, c5, c6, c7, c8, _⟩ := RR.out.cells
        by_cases hlt : k < 8
        · go_wp2_with fail
          refine (frag_in c _ l i k _ (HL.out _ RR.out.2.2) HK.out h0 h1 k0 hlt).mono ?_
          rintro e w4 ⟨rfl, hp4⟩
          have R4 := Lib.hid (RR.out.keep hp4)
          clear hp4 c0 c1 c2 c3 c4 c5 c6 c7 c8
          obtain ⟨c0, c1, c2, c3, c4, c5, c6, c7, c8, _⟩ := R4.out.cells
          go_wp2_with fail
          refine (of_any c _ l (8 * i + k) _ (HL.out _ R4.out.2.2) (by omega)).mono ?_
          have hof : ofI (z0 c l) (z1 c l) (z3 c l) (8 * i + k) = (1, i, k) := by
            have hz := z_ok HK.out
            unfold ofI
            rw [if_neg (by omega), if_pos (by omega), show (8 * i + k) / 8 = i from by omega, show (8 * i + k) % 8 = k from by omega]
          rw [hof]
          rintro e w5 ⟨rfl, hp5⟩
          have R5 := Lib.hid (R4.out.keep hp5)
          clear hp5 hof c0 c1 c2 c3 c4 c5 c6 c7 c8
          go_wp2_with fail
          go_roundw
          case rel => exact ⟨k + 1, by omega, by omega, by first | rfl | simp, R5.out⟩
          case measure => simp [intOf]; omega
        · obtain rfl : k = 8 := by omega
          have hd := Row.new wr ⟨c.frags, c.spine, 0, c.threads, c.locals, c.cache, c.stack, c.low⟩ (.slice A l.length cc)
          have hx := RR.out.keep ((Only.refl (fun _ => False) wr).alloc (.cells #[.int .i64 c.frags, .int .i64 c.spine, .int .i64 0, .int .i64 c.threads, .int .i64 c.locals, .int .i64 c.cache, .int .i64 c.stack, .int .i64 c.low, .slice A l.length cc] 24))
          have HD := Lib.hid hd
          have HX := Lib.hid hx
          obtain ⟨x0, x1, x2, x3, x4, x5, x6, x7, x8, _⟩ := hx.cells
          clear hd hx c0 c1 c2 c3 c4 c5 c6 c7 c8
          obtain ⟨c0, c1, c2, c3, c4, c5, c6, c7, c8, _⟩ := RR.out.cells
          go_wp2_with fail
          generalize wr.alloc (.cells #[.int .i64 c.frags, .int .i64 c.spine, .int .i64 0, .int .i64 c.threads, .int .i64 c.locals, .int .i64 c.cache, .int .i64 c.stack, .int .i64 c.low, .slice A l.length cc] 24) = W4 at *
          clear c0 c1 c2 c3 c4 c5 c6 c7 c8
          generalize wr.heap.size = Y at HD ⊢
          refine (frag_out c _ l i (-1) _ (HL.out _ HX.out.2.2) (.inr (.inr (.inr (.inl (by omega)))))).mono ?_
          rintro e w5 ⟨rfl, hp5⟩
          have h2 : Duo w X Y c (.slice A l.length cc) w5 := by
            obtain ⟨x0, x1, x2, x3, x4, x5, x6, x7, x8, _⟩ := (HX.out.keep hp5).cells
            obtain ⟨y0, y1, y2, y3, y4, y5, y6, y7, y8, _⟩ := (HD.out.keep hp5).cells
            exact ⟨x0, x1, x2, x3, x4, x5, x6, x7, x8, y0, y1, y2, y3, y4, y5, y6, y7, y8, (HX.out.keep hp5).2.2⟩
          have H2 := Lib.hid h2
          clear h2 hp5 x0 x1 x2 x3 x4 x5 x6 x7 x8
          go_wp2_with fail
          obtain ⟨x0, x1, x2, x3, x4, x5, x6, x7, x8, y0, y1, y2, y3, y4, y5, y6, y7, y8, _⟩ := H2.out
          have HK2 := Lib.hid (no_globals HK.out)
          have HK1 : Hid (checkI ⟨c.frags, c.spine, c.globals, c.threads, c.locals, c.cache, c.stack, c.low⟩ l = 0) := HK
          have u1 : IntKind.i64.wrap (wordsN c.frags c.spine c.globals - c.globals) = wordsN c.frags c.spine 0 := by
            rw [IntWalk.i64_in _ (by unfold wordsN; omega)]
            unfold wordsN
            omega
          clear b0 b1 b2 b3 b4 b5 ib h0 h1
          go_region_held3 (fun w' => w'.cell? ⟨X, 0, none⟩ = some (.int .i64 c.frags) ∧ w'.cell? ⟨X, 1, none⟩ = some (.int .i64 c.spine) ∧ w'.cell? ⟨X, 2, none⟩ = some (.int .i64 c.globals) ∧ w'.cell? ⟨X, 3, none⟩ = some (.int .i64 c.threads) ∧ w'.cell? ⟨X, 4, none⟩ = some (.int .i64 c.locals) ∧ w'.cell? ⟨X, 5, none⟩ = some (.int .i64 c.cache) ∧ w'.cell? ⟨X, 6, none⟩ = some (.int .i64 c.stack) ∧ w'.cell? ⟨X, 7, none⟩ = some (.int .i64 c.low) ∧ w'.cell? ⟨X, 8, none⟩ = some (.slice A l.length cc) ∧
              w'.cell? ⟨Y, 0, none⟩ = some (.int .i64 c.frags) ∧ w'.cell? ⟨Y, 1, none⟩ = some (.int .i64 c.spine) ∧ w'.cell? ⟨Y, 2, none⟩ = some (.int .i64 0) ∧ w'.cell? ⟨Y, 3, none⟩ = some (.int .i64 c.threads) ∧ w'.cell? ⟨Y, 4, none⟩ = some (.int .i64 c.locals) ∧ w'.cell? ⟨Y, 5, none⟩ = some (.int .i64 c.cache) ∧ w'.cell? ⟨Y, 6, none⟩ = some (.int .i64 c.stack) ∧ w'.cell? ⟨Y, 7, none⟩ = some (.int .i64 c.low) ∧ w'.cell? ⟨Y, 8, none⟩ = some (.slice A l.length cc) ∧ Pure w w')
            ((first | assumption | exact Duo.keep w5 w5.drew H2.out ((Only.refl _ w5).drewN 1)))
            (first | (go_at_call 7; refine (withS (by assumption) (Duo.keep (X := X) (Y := Y) (c := c)) (first_any _)).mono ?_; rintro e w' ⟨rfl, hs⟩)
                   | (go_at_call 12; refine (withS (by assumption) (Duo.keep (X := X) (Y := Y) (c := c)) (words_is _ _ _ _ _ _ _ _ _ l _ (HL.out _ (Duo.pure (X := X) (Y := Y) (c := c) (v := .slice A l.length cc) (by assumption))) (by first | exact HK1 | exact HK2))).mono ?_; rintro e w' ⟨rfl, hs⟩))
          all_goals
            go_wp2
            go_ret
            exact ⟨rfl, Duo.pure (X := X) (Y := Y) (c := c) (v := .slice A l.length cc) (by assumption)⟩

theorem open_0 {H : Type} {enc : TypeId × Value → H} {W : World} {b0 base : Nat} {v : Value} {d : DataW H} {ps : List MemPlace} {r : Reach}
    (hval : Value.okWide Try.prog W r b0 24 v) (h : DataW.Trod enc Try.prog W base (fun _ => true) true 24 v d ps) : ∃ x : Cn × Value × List Sh, v = cnV x.1 x.2.1 ∧ ShsR W W.heap.size x.2.1 x.2.2 := open_conf hval h

theorem walk (w : World) (v : Value) (x : Cn × Value × List Sh) (h : v = cnV x.1 x.2.1 ∧ ShsR w w.heap.size x.2.1 x.2.2) (i : Int) (_hi : -2^63 ≤ i ∧ i ≤ 2^63-1) :
    Calls Try.prog 3 #[v, .int .i64 i] w fun e w' => e = .returned (.bool true) ∧ Pure w w' := by
  obtain ⟨rfl, hs⟩ := h
  exact main x.1 x.2.1 x.2.2 i w hs

set_option maxRecDepth 100000 in
theorem lifted (os : Os) (started : os.Started) (H : Type) (enc : TypeId × Value → H) :
    ReturnsInHanded {} Try.checked os 3 .any (Rows.areaFragsSpec.pre6 enc Try.prog Try.f3 Rows.areaFragsRow.domain false) (Rows.areaFragsSpec.post enc Try.prog Try.f3 false true false false) :=
  lift_law (C := Try.checked) own started (by kernel_rfl) Try.func3 laidOut (by kernel_rfl) rfl rfl Try.underlying4
    (fun ds h => by match ds, h with | [_, _], _ => rfl)
    (ChangeSpec.witness6 (enc := enc) (C := Try.checked) false ⟨#[], #[.agg #[.int .i64 0, .int .i64 0, .int .i64 0, .int .i64 0, .int .i64 0, .int .i64 0, .int .i64 0, .int .i64 0, .slice none 0 0], .int .i64 0], []⟩ 8 (by kernel_rfl) (by kernel_rfl) (by kernel_rfl) (by kernel_rfl))
    (fun W base args ds ps hval hA hlt => by
      have hA' : DataW.TrodAll enc Try.prog W 0 (fun _ => true) true Try.f3.params.toList args.toList ds ps := hA
      rw [Try.params3] at hA'
      have hval' : ∀ (j : Nat) t v, Try.f3.params[j]? = some t → args[j]? = some v → Value.okWide Try.prog W .any base t v := hval
      rw [Try.params3] at hval'
      obtain ⟨v0, vs0, d0, ds0, p0, q0, hargs, rfl, rfl, h0, r0⟩ := trodAll_cons hA'
      obtain ⟨v1, vs1, d1, ds1, p1, q1, rfl, rfl, rfl, h1, r1⟩ := trodAll_cons r0
      obtain ⟨rfl, rfl, rfl⟩ := trodAll_nil r1
      obtain rfl : args = #[v0, v1] := by cases args; simp_all
      obtain ⟨x0, s0⟩ := open_0 (hval' 0 24 v0 rfl rfl) h0
      obtain ⟨a1, rfl, rfl, rfl, w1⟩ := open_int Try.underlying3 (hval' 1 3 v1 rfl rfl) h1
      exact (walk W _ x0 s0 a1 (int_bounds w1)).mono fun e W' ⟨he, hp⟩ => ⟨he, hp.below⟩)

/-- The statement. -/
theorem proved : Rows.AreaFragsSaid :=
  OpenClaim.holds_of_wide 3 Try.f3 rfl rfl rfl rfl rfl rfl rfl ⟨rfl, rfl, rfl, rfl, rfl⟩ rfl rfl rfl rfl rfl (by kernel_rfl) Try.func3 (by kernel_rfl)
    (of_decide_eq_true (by kernel_rfl)) (by unfold Func.isWrapper; first | (rw [if_pos (by decide +kernel)]; kernel_rfl) | (rw [if_neg (by decide +kernel)]; exact ⟨rfl, rfl⟩))
    (fun os started H enc _ => lifted os started H enc)
#print axioms proved

end areaFrags
end Go.Proofs.Ytdlcfgpmjhcgdaa
