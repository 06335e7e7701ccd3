/-
  StockBounds: a Stock never keeps more than its bound; what does not fit is not kept at all. For every input.
-/
import Derived.Test.YtlnhehjdicpeoaaSt5
namespace Go.Proofs.Ytlnhehjdicpeoaa.stockBounds
open Go.RowKit Go.ChangeShapes Go.WideShapes Go.ChangeAt

theorem out1 (most : Int) (v : Value) (xs : List Int) (w : World) (hs : SlI w w.heap.size v xs) (h : most < 0 ∨ 8 < most) :
    Calls Try.prog 7 #[.int .i64 most, v] w fun e w' => e = .returned (.bool true) ∧ Pure w w' := by
  obtain ⟨A, c, rfl, hl, hm⟩ := hs.len
  have go : ∀ (H : (most < 0) ∨ (¬ most < 0 ∧ 8 < most)), Calls Try.prog 7 #[.int .i64 most, .slice A xs.length c] w fun e w' => e = .returned (.bool true) ∧ Pure w w' := by
    intro H
    rcases H with h1 | ⟨h1, h2⟩
    all_goals
      go_enter Try.func7, Try.ntmps7
      go_wp2_with fail
      refine (first_any _).mono ?_
      rintro e w1 ⟨rfl, hp1⟩
      have P1 := Lib.hid hp1
      clear hp1
      go_wp2_with fail
      refine (new_no most w1 h).mono ?_
      rintro e w2 ⟨rfl, rfl⟩
      go_wp2_with fail
      refine (first_any _).mono ?_
      rintro e w2 ⟨rfl, hp2⟩
      have P2 := Lib.hid hp2
      clear hp2
      go_wp2
      go_ret
      exact ⟨rfl, P1.out.then P2.out⟩
  exact go (by omega)

theorem out2 (most : Int) (v : Value) (xs : List Int) (w : World) (hs : SlI w w.heap.size v xs) (h0 : 0 ≤ most) (h8 : most ≤ 8) (hl : 100 < xs.length) :
    Calls Try.prog 7 #[.int .i64 most, v] w fun e w' => e = .returned (.bool true) ∧ Pure w w' := by
  obtain ⟨A, c, rfl, hlc, hm⟩ := hs.len
  go_enter Try.func7, Try.ntmps7
  go_wp2_with fail
  refine (first_any _).mono ?_
  rintro e w1 ⟨rfl, hp1⟩
  have P1 := Lib.hid hp1
  clear hp1
  go_wp2_with fail
  refine (new_ok most w1 h0 h8).mono ?_
  rintro e w2 ⟨rfl, rfl⟩
  go_wp2_with fail
  refine (first_any _).mono ?_
  rintro e w2 ⟨rfl, hp2⟩
  have P2 := Lib.hid hp2
  clear hp2
  go_wp2
  go_ret
  exact ⟨rfl, Pure.then (P1.out.alloc _) P2.out⟩

/-- What Put does to a new Stock, told once for both ways. -/
def PutSays (fits : Bool) (most : Int) (xs ys : List Int) : Prop :=
  ∀ (w : World) (B : Nat) (sv : Value), StkOf w B most (.slice none 0 0) [] → SlI w w.heap.size sv xs →
    Calls Try.prog 12 #[.pointer (some ⟨B, 0, none⟩), sv] w fun e w' => ∃ v', e = .returned (.bool fits) ∧ StkOf w' B most v' ys ∧ Only (fun k => k = B) w w'

theorem put_yes (most : Int) (xs : List Int) (h : (xs.length : Int) ≤ most) : PutSays true most xs xs := fun w B sv hk hs =>
  (put_ok B most _ _ [] xs w hk hs (by simpa using h)).mono fun _ _ ⟨v', he, h1, h2, _⟩ => ⟨v', he, h1, h2.mono (fun k _ e => by rcases e with e | e; exact e; simp [Value.ownBlock] at e)⟩
theorem put_nay (most : Int) (xs : List Int) (h : most < (xs.length : Int)) : PutSays false most xs [] := fun w B sv hk hs =>
  (put_no B most _ _ [] xs w hk hs (by simpa using h)).mono fun _ _ ⟨he, d, hw⟩ => ⟨_, he, hw ▸ hk.drewN d, hw ▸ (Only.refl _ _).drewN d⟩

theorem main (fits : Bool) (most : Int) (v : Value) (xs ys : List Int) (w : World) (hs : SlI w w.heap.size v xs) (h0 : 0 ≤ most) (h8 : most ≤ 8) (hl100 : xs.length ≤ 100)
    (hf : decide ((xs.length : Int) ≤ most) = fits) (hput : PutSays fits most xs ys) (hy : ys.length = 0 ∨ (ys.length = xs.length ∧ ((xs.length : Int) != 0) = true)) :
    Calls Try.prog 7 #[.int .i64 most, v] w fun e w' => e = .returned (.bool true) ∧ Pure w w' := by
  have hs0 := Lib.hid hs
  have HPUT := Lib.hid hput
  obtain ⟨A, c, rfl, hlc, hm⟩ := hs.len
  clear hs hput
  have HY := Lib.hid hy
  clear hy
  have HF := Lib.hid hf
  clear hf
  go_enter Try.func7, Try.ntmps7
  go_wp2_with fail
  refine (first_any _).mono ?_
  rintro e w1 ⟨rfl, hp1⟩
  have P1 := Lib.hid hp1
  clear hp1
  go_wp2_with fail
  refine (new_ok most w1 h0 h8).mono ?_
  rintro e w2 ⟨rfl, rfl⟩
  have hs2 := hs0.out.only (P1.out.alloc (.cells #[.slice none 0 0, .int .i64 most] 46)) (fun _ _ f => f)
  have k2 := stk_new w1 most h0 h8
  have o2 : Pure w (w1.alloc (.cells #[.slice none 0 0, .int .i64 most] 46)) := P1.out.alloc _
  have hB' : w.heap.size ≤ w1.heap.size := P1.out.size
  generalize w1.alloc (.cells #[.slice none 0 0, .int .i64 most] 46) = W2 at *
  generalize w1.heap.size = B at *
  have K2 := Lib.hid k2; have S2 := Lib.hid hs2; have O2 := Lib.hid o2
  clear k2 hs2 o2
  go_wp2_with fail
  refine (HPUT.out W2 B _ K2.out S2.out).mono ?_
  rintro e W3 ⟨v3, rfl, k3, o3⟩
  have o3' : Pure w W3 := O2.out.trans (o3.mono (T := fun k => w.heap.size ≤ k) (fun k _ e => by subst e; exact hB')) (fun i hi h => by omega)
  obtain ⟨A3, c3, rfl, hl3⟩ := k3.form
  have hk3 := k3.at_
  have K3 := Lib.hid k3; have O3 := Lib.hid o3'
  clear k3 o3 o3' K2 O2 S2 HPUT
  have hle : (ys.length : Int) ≤ most := K3.out.le
  have hf : decide ((xs.length : Int) ≤ most) = fits := HF.out
  have after : ∀ (n : Nat), ys.length = n → n ≤ 100 → ∀ (W4 : World) (d : Nat), W4 = W3.drewN d → StkOf W4 B most (.slice A3 n c3) ys ∧ Pure w W4 := by
    rintro n rfl _ W4 d rfl
    exact ⟨K3.out.drewN d, O3.out.drewN d⟩
  have AFTER := Lib.hid after
  clear after
  rcases HY.out with hy | ⟨hy, hy2⟩
  · obtain rfl : ys = [] := List.eq_nil_of_length_eq_zero hy
    clear hy
    have e0 : ([] : List Int).length = 0 := rfl
    rw [e0] at hk3 hl3 hle
    cases fits
    all_goals
      go_wp2_with fail
      refine (len_any B A3 0 c3 most W3 hk3).mono ?_
      rintro e W4 ⟨rfl, rfl⟩
      go_wp2_with fail
      refine (room_any B A3 0 c3 most W3 hk3 hl3 h0 h8).mono ?_
      rintro e W4 ⟨rfl, d4, rfl⟩
      go_wp2_with fail
      refine (len_any B A3 0 c3 most (W3.drewN d4) (hk3.drewN d4)).mono ?_
      rintro e W4 ⟨rfl, rfl⟩
      go_wp2_with fail
      refine (len_any B A3 0 c3 most (W3.drewN d4) (hk3.drewN d4)).mono ?_
      rintro e W4 ⟨rfl, rfl⟩
      go_wp2_with fail
      refine (drain_any B (.slice A3 0 c3) most (W3.drewN d4) (hk3.drewN d4)).mono ?_
      rintro e W5 ⟨rfl, rfl⟩
      have k5 : StkOf ((W3.drewN d4).setCell ⟨B, 0, none⟩ (.slice none 0 0)) B most (.slice none 0 0) [] := ⟨(hk3.drewN d4).set _, World.ownsRow_nil _ _ _ _, h0, h8, by simpa using h0, by simp⟩
      have o5 : Pure w ((W3.drewN d4).setCell ⟨B, 0, none⟩ (.slice none 0 0)) := (O3.out.drewN d4).setCell (fun h => by have h' : B < w.heap.size := h; omega) _
      generalize (W3.drewN d4).setCell ⟨B, 0, none⟩ (.slice none 0 0) = W5 at *
      have K5 := Lib.hid k5; have O5 := Lib.hid o5
      clear k5 o5
      go_wp2_with fail
      refine (take_no B most 1 _ [] W5 K5.out (by simp)).mono ?_
      rintro e W6 ⟨rfl, rfl⟩
      go_wp2_with fail
      refine (first_any _).mono ?_
      rintro e W6 ⟨rfl, hp6⟩
      have k6 := (K5.out.only hp6 (fun _ _ f => f)).at_
      have P6 := Lib.hid hp6
      clear hp6
      go_wp2_with fail
      refine (len_any B none 0 0 most W6 k6).mono ?_
      rintro e W7 ⟨rfl, rfl⟩
      go_wp2_with fail
      refine (room_any B none 0 0 most W6 k6 (by omega) h0 h8).mono ?_
      rintro e W7 ⟨rfl, d7, rfl⟩
      go_wp2
      go_ret
      exact ⟨rfl, (Pure.then O5.out P6.out).drewN _⟩
  · rw [hy] at hk3 hl3 hle
    obtain rfl : fits = true := by rw [← hf]; simpa using hle
    go_wp2_with fail
    refine (len_any B A3 _ c3 most W3 hk3).mono ?_
    rintro e W4 ⟨rfl, rfl⟩
    go_wp2_with fail
    refine (len_any B A3 _ c3 most W3 hk3).mono ?_
    rintro e W4 ⟨rfl, rfl⟩
    go_wp2_with fail
    refine (room_any B A3 _ c3 most W3 hk3 hl3 h0 h8).mono ?_
    rintro e W4 ⟨rfl, d4, rfl⟩
    go_wp2_with fail
    refine (len_any B A3 _ c3 most (W3.drewN d4) (hk3.drewN d4)).mono ?_
    rintro e W4 ⟨rfl, rfl⟩
    go_wp2_with fail
    refine (len_any B A3 xs.length c3 most (W3.drewN d4) (hk3.drewN d4)).mono ?_
    rintro e W4 ⟨rfl, rfl⟩
    go_wp2_with fail
    refine (drain_any B (.slice A3 xs.length c3) most (W3.drewN d4) (hk3.drewN d4)).mono ?_
    rintro e W5 ⟨rfl, rfl⟩
    have k5 : StkOf ((W3.drewN d4).setCell ⟨B, 0, none⟩ (.slice none 0 0)) B most (.slice none 0 0) [] := ⟨(hk3.drewN d4).set _, World.ownsRow_nil _ _ _ _, h0, h8, by simpa using h0, by simp⟩
    have o5 : Pure w ((W3.drewN d4).setCell ⟨B, 0, none⟩ (.slice none 0 0)) := (O3.out.drewN d4).setCell (fun h => by have h' : B < w.heap.size := h; omega) _
    generalize (W3.drewN d4).setCell ⟨B, 0, none⟩ (.slice none 0 0) = W5 at *
    have K5 := Lib.hid k5; have O5 := Lib.hid o5
    clear k5 o5
    go_wp2_with fail
    refine (take_no B most 1 _ [] W5 K5.out (by simp)).mono ?_
    rintro e W6 ⟨rfl, rfl⟩
    go_wp2_with fail
    refine (first_any _).mono ?_
    rintro e W6 ⟨rfl, hp6⟩
    have k6 := (K5.out.only hp6 (fun _ _ f => f)).at_
    have P6 := Lib.hid hp6
    clear hp6
    go_wp2_with fail
    refine (len_any B none 0 0 most W6 k6).mono ?_
    rintro e W7 ⟨rfl, rfl⟩
    go_wp2_with fail
    refine (room_any B none 0 0 most W6 k6 (by omega) h0 h8).mono ?_
    rintro e W7 ⟨rfl, d7, rfl⟩
    go_wp2
    go_ret
    exact ⟨rfl, (Pure.then O5.out P6.out).drewN _⟩

theorem walk (w : World) (most : Int) (hb : -9223372036854775808 ≤ most ∧ most ≤ 9223372036854775807) (v : Value) (xs : List Int) (hs : SlI w w.heap.size v xs) :
    Calls Try.prog 7 #[.int .i64 most, v] w fun e w' => e = .returned (.bool true) ∧ Pure w w' := by
  by_cases h0 : most < 0 ∨ 8 < most
  · exact out1 most v xs w hs h0
  · by_cases hl : 100 < xs.length
    · exact out2 most v xs w hs (by omega) (by omega) hl
    · by_cases hf : (xs.length : Int) ≤ most
      · refine main true most v xs xs w hs (by omega) (by omega) (by omega) (by simpa using hf) (put_yes most xs hf) ?_
        by_cases hz : xs.length = 0
        · exact .inl hz
        · exact .inr ⟨rfl, by rw [bne_iff_ne]; omega⟩
      · exact main false most v xs [] w hs (by omega) (by omega) (by omega) (by simpa using hf) (put_nay most xs (by omega)) (.inl rfl)

set_option maxRecDepth 100000 in
theorem lifted (os : Os) (started : os.Started) (H : Type) (enc : TypeId × Value → H) :
    ReturnsInHanded {} Try.checked os 7 .any (Rows.stockBoundsSpec.pre6 enc Try.prog Try.f7 Rows.stockBoundsRow.domain false) (Rows.stockBoundsSpec.post enc Try.prog Try.f7 false true false false) :=
  lift_law (C := Try.checked) own started (by kernel_rfl) Try.func7 laidOut (by kernel_rfl) rfl rfl Try.underlying4
    (fun ds h => by match ds, h with | [_, _], _ => rfl)
    (ChangeSpec.witness6 (enc := enc) (C := Try.checked) false ⟨#[], #[.int .i64 0, .slice none 0 0], []⟩ 8 (by kernel_rfl) (by kernel_rfl) (by kernel_rfl) (by kernel_rfl))
    (fun W base args ds ps hval hA hlt => by
      have hA' : DataW.TrodAll enc Try.prog W 0 (fun _ => true) true Try.f7.params.toList args.toList ds ps := hA
      rw [Try.params7] at hA'
      have hval' : ∀ (j : Nat) t v, Try.f7.params[j]? = some t → args[j]? = some v → Value.okWide Try.prog W .any base t v := hval
      rw [Try.params7] at hval'
      obtain ⟨v0, vs0, d0, ds0, p0, q0, hargs, rfl, rfl, h0, r0⟩ := trodAll_cons hA'
      obtain ⟨v1, vs1, d1, ds1, p1, q1, rfl, rfl, rfl, h1, r1⟩ := trodAll_cons r0
      obtain ⟨rfl, rfl, rfl⟩ := trodAll_nil r1
      obtain rfl : args = #[v0, v1] := by cases args; simp_all
      obtain ⟨a0, rfl, rfl, rfl, w0⟩ := open_int Try.underlying3 (hval' 0 3 v0 rfl rfl) h0
      obtain ⟨xs1, s1⟩ := open_sl Try.underlying23 Try.underlying3 (by kernel_rfl) (hval' 1 23 v1 rfl rfl) h1
      exact (walk W a0 (int_bounds w0) _ xs1 s1).mono fun e W' ⟨he, hp⟩ => ⟨he, hp.below⟩)

/-- The statement. -/
theorem proved : Rows.StockBoundsSaid :=
  OpenClaim.holds_of_wide 7 Try.f7 rfl rfl rfl rfl rfl rfl rfl ⟨rfl, rfl, rfl, rfl, rfl⟩ rfl rfl rfl rfl rfl (by kernel_rfl) Try.func7 (by kernel_rfl)
    (of_decide_eq_true (by kernel_rfl)) (by unfold Func.isWrapper; first | (rw [if_pos (by decide +kernel)]; kernel_rfl) | (rw [if_neg (by decide +kernel)]; exact ⟨rfl, rfl⟩))
    (fun os started H enc _ => lifted os started H enc)
#print axioms proved

end Go.Proofs.Ytlnhehjdicpeoaa.stockBounds
