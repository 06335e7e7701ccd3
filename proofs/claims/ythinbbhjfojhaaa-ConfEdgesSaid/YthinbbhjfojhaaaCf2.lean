/-
  ConfStocks: what threads may keep together is never more than there is. For every input.
-/
import Derived.Test.YthinbbhjfojhaaaCfOpen
import Derived.IntWalk
namespace Go.Proofs.Ythinbbhjfojhaaa.confStocks
open Go.RowKit Go.ChangeShapes Go.WideShapes Go.ChangeAt
open Go.Proofs.Ythinbbhjfojhaaa.confSmall (Row Row.new Row.keep Row.cells Row.keepSet first_any)

/-! ### Plain -/
theorem check_cases (c : Cn) (l : List Sh) : checkI c l = 0 ∨ checkI c l = 1 ∨ checkI c l = 4 := by
  unfold checkI
  split
  · simp
  · split
    · simp
    · split <;> simp
theorem check_zero {c : Cn} {l : List Sh} (h : checkI c l = 0) : (tests c).all id = true ∧ ¬ c.frags < c.threads * c.cache ∧ (withinB l.length 1 8 && mayAll l) = true := by
  unfold checkI at h
  split at h
  · simp at h
  · split at h
    · simp at h
    · split at h
      · simp at h
      · simp_all
theorem mul_in {a b : Int} (h1 : 1 ≤ a) (h2 : a ≤ 16) (h3 : 0 ≤ b) (h4 : b ≤ 8) : 0 ≤ a * b ∧ a * b ≤ 128 :=
  ⟨Int.mul_nonneg (by omega) h3, Int.le_trans (Int.mul_le_mul_of_nonneg_right h2 h3) (by omega)⟩
theorem check_turn {c : Cn} {l : List Sh} (h : checkI c l = 0) {t q : Int} (h1 : 1 ≤ t) (h2 : t ≤ 16) (h3 : 0 ≤ q) (h4 : q ≤ 8) :
    checkI ⟨c.frags, c.spine, c.globals, t, c.locals, q, c.stack, c.low⟩ l = if c.frags < t * q then 1 else 0 := by
  obtain ⟨a, _, d⟩ := check_zero h
  have a' : (tests ⟨c.frags, c.spine, c.globals, t, c.locals, q, c.stack, c.low⟩).all id = true := by
    simp only [tests, withinB, List.all_cons, List.all_nil, id, Bool.and_eq_true, decide_eq_true_eq, Bool.and_true, and_assoc] at a ⊢
    simp_all
  rw [checkI, if_neg (by rw [a']; simp), if_neg (c := (withinB _ _ _ && mayAll l) = false) (by rw [d]; simp)]

/-- Both configurations: c in block X, d in block Y. -/
def Two (w : World) (X Y : Nat) (c d : Cn) (v : Value) (w' : World) : Prop :=
  w'.cell? ⟨X, 0, none⟩ = some (.int .i64 c.frags) ∧ w'.cell? ⟨X, 3, none⟩ = some (.int .i64 c.threads) ∧ w'.cell? ⟨X, 5, none⟩ = some (.int .i64 c.cache) ∧
  w'.cell? ⟨Y, 0, none⟩ = some (.int .i64 d.frags) ∧ w'.cell? ⟨Y, 1, none⟩ = some (.int .i64 d.spine) ∧ w'.cell? ⟨Y, 2, none⟩ = some (.int .i64 d.globals) ∧ w'.cell? ⟨Y, 3, none⟩ = some (.int .i64 d.threads) ∧
  w'.cell? ⟨Y, 4, none⟩ = some (.int .i64 d.locals) ∧ w'.cell? ⟨Y, 5, none⟩ = some (.int .i64 d.cache) ∧ w'.cell? ⟨Y, 6, none⟩ = some (.int .i64 d.stack) ∧ w'.cell? ⟨Y, 7, none⟩ = some (.int .i64 d.low) ∧ w'.cell? ⟨Y, 8, none⟩ = some v ∧ Pure w w'
theorem Two.keep {w : World} {X Y : Nat} {c d : Cn} {v : Value} (a b : World) (h : Two w X Y c d v a) (k : Pure a b) : Two w X Y c d v b := by
  obtain ⟨x0, x3, x5, h0, h1, h2, h3, h4, h5, h6, h7, h8, h9⟩ := h
  exact ⟨k.keep x0, k.keep x3, k.keep x5, k.keep h0, k.keep h1, k.keep h2, k.keep h3, k.keep h4, k.keep h5, k.keep h6, k.keep h7, k.keep h8, h9.then k⟩
theorem Two.pure {w w1 : World} {X Y : Nat} {c d : Cn} {v : Value} (h : Two w X Y c d v w1) : Pure w w1 := h.2.2.2.2.2.2.2.2.2.2.2.2
theorem Two.check {w w1 : World} {X Y : Nat} {c d : Cn} {v : Value} {l : List Sh} {r : Int} (h : Two w X Y c d v w1) (HL : ∀ w', Pure w w' → ShsR w' w'.heap.size v l) (hr : checkI d l = r) :
    Calls Try.prog 10 #[cnV d v] w1 fun e w' => e = .returned (.int .i64 r) ∧ Pure w1 w' := by
  subst hr
  exact check_any d v l w1 (HL _ h.2.2.2.2.2.2.2.2.2.2.2.2)

set_option maxRecDepth 100000 in
set_option maxHeartbeats 2000000 in
theorem main (c : Cn) (v : Value) (l : List Sh) (threads cache : Int) (w : World) (hl : ShsR w w.heap.size v l) :
    Calls Try.prog 3 #[cnV c v, .int .i64 threads, .int .i64 cache] w fun e w' => e = .returned (.bool true) ∧ Pure w w' := by
  have HL := Lib.hid (fun (w' : World) (hp : Pure w w') => hl.pure hp)
  obtain ⟨A, cc, rfl⟩ : ∃ A cc, v = .slice A l.length cc := by
    obtain ⟨⟨A, cc, rfl, _⟩, _⟩ := hl
    exact ⟨A, cc, rfl⟩
  clear hl
  go_enter Try.func3, Try.ntmps3
  go_wp2_with fail
  have hr := Row.new w c (.slice A l.length cc)
  generalize w.alloc _ = W at hr ⊢
  generalize w.heap.size = X at hr ⊢
  have R := Lib.hid hr
  clear hr
  refine (first_any _).mono ?_
  rintro e w1 ⟨rfl, hp1⟩
  have R1 := Lib.hid (R.out.keep hp1)
  clear hp1
  obtain ⟨c0, c1, c2, c3, c4, c5, c6, c7, c8, _⟩ := R1.out.cells
  go_wp2_with fail
  refine (few_any c _ l _ (HL.out _ R1.out.2.2)).mono ?_
  rintro e w2 ⟨⟨b, rfl⟩, hp2⟩
  have R2 := Lib.hid (R1.out.keep hp2)
  clear hp2 c0 c1 c2 c3 c4 c5 c6 c7 c8
  obtain ⟨c0, c1, c2, c3, c4, c5, c6, c7, c8, _⟩ := R2.out.cells
  cases b with
  | false =>
    go_wp2_with fail
    refine (first_any _).mono ?_
    rintro e w8 ⟨rfl, hp8⟩
    have P8 := Lib.hid (R2.out.2.2.then hp8)
    clear hp8
    go_wp2
    go_ret
    exact ⟨rfl, P8.out⟩
  | true =>
    go_wp2_with fail
    refine (check_any c _ l _ (HL.out _ R2.out.2.2)).mono ?_
    rcases check_cases c l with hk | hk | hk
    · have HK := Lib.hid hk
      rw [hk]
      rintro e w3 ⟨rfl, hp3⟩
      have R3 := Lib.hid (R2.out.keep hp3)
      clear hp3 hk c0 c1 c2 c3 c4 c5 c6 c7 c8
      obtain ⟨c0, c1, c2, c3, c4, c5, c6, c7, c8, _⟩ := R3.out.cells
      rcases (by omega : threads < 1 ∨ (1 ≤ threads ∧ 16 < threads) ∨ (1 ≤ threads ∧ threads ≤ 16 ∧ cache < 0) ∨ (1 ≤ threads ∧ threads ≤ 16 ∧ 0 ≤ cache ∧ 8 < cache) ∨ (1 ≤ threads ∧ threads ≤ 16 ∧ 0 ≤ cache ∧ cache ≤ 8)) with h | ⟨t1, h⟩ | ⟨t1, t2, h⟩ | ⟨t1, t2, t3, h⟩ | ⟨t1, t2, t3, t4⟩
      · go_wp2_with fail
        refine (first_any _).mono ?_
        rintro e w8 ⟨rfl, hp8⟩
        have P8 := Lib.hid (R3.out.2.2.then hp8)
        clear hp8
        go_wp2
        go_ret
        exact ⟨rfl, P8.out⟩
      · go_wp2_with fail
        refine (first_any _).mono ?_
        rintro e w8 ⟨rfl, hp8⟩
        have P8 := Lib.hid (R3.out.2.2.then hp8)
        clear hp8
        go_wp2
        go_ret
        exact ⟨rfl, P8.out⟩
      · go_wp2_with fail
        refine (first_any _).mono ?_
        rintro e w8 ⟨rfl, hp8⟩
        have P8 := Lib.hid (R3.out.2.2.then hp8)
        clear hp8
        go_wp2
        go_ret
        exact ⟨rfl, P8.out⟩
      · go_wp2_with fail
        refine (first_any _).mono ?_
        rintro e w8 ⟨rfl, hp8⟩
        have P8 := Lib.hid (R3.out.2.2.then hp8)
        clear hp8
        go_wp2
        go_ret
        exact ⟨rfl, P8.out⟩
      · have hz := check_zero HK.out
        have hm := mul_in t1 t2 t3 t4
        have hmc : 0 ≤ c.threads * c.cache ∧ c.threads * c.cache ≤ 128 := by
          have a := hz.1
          simp only [tests, withinB, List.all_cons, List.all_nil, id, Bool.and_eq_true, decide_eq_true_eq, Bool.and_true, and_assoc] at a
          exact mul_in (by omega) (by omega) (by omega) (by omega)
        have hle := hz.2.1
        have ht := Lib.hid (check_turn HK.out t1 t2 t3 t4)
        clear hz
        go_wp2_with fail
        have hd := Row.new w3 ⟨c.frags, c.spine, c.globals, threads, c.locals, cache, c.stack, c.low⟩ (.slice A l.length cc)
        have hx := R3.out.keep ((Only.refl (fun _ => False) w3).alloc (.cells #[.int .i64 c.frags, .int .i64 c.spine, .int .i64 c.globals, .int .i64 threads, .int .i64 c.locals, .int .i64 cache, .int .i64 c.stack, .int .i64 c.low, .slice A l.length cc] 24))
        generalize w3.alloc (.cells #[.int .i64 c.frags, .int .i64 c.spine, .int .i64 c.globals, .int .i64 threads, .int .i64 c.locals, .int .i64 cache, .int .i64 c.stack, .int .i64 c.low, .slice A l.length cc] 24) = W4 at hd hx ⊢
        clear c0 c1 c2 c3 c4 c5 c6 c7 c8
        generalize w3.heap.size = Y at hd ⊢
        have h2 : Two w X Y c ⟨c.frags, c.spine, c.globals, threads, c.locals, cache, c.stack, c.low⟩ (.slice A l.length cc) W4 := by
          obtain ⟨x0, x1, x2, x3, x4, x5, x6, x7, x8, _⟩ := hx.cells
          obtain ⟨y0, y1, y2, y3, y4, y5, y6, y7, y8, _⟩ := hd.cells
          exact ⟨x0, x3, x5, y0, y1, y2, y3, y4, y5, y6, y7, y8, hx.2.2⟩
        clear hd hx
        have H2 := Lib.hid h2
        obtain ⟨x0, x3, x5, y0, y1, y2, y3, y4, y5, y6, y7, y8, _⟩ := h2
        by_cases hf : c.frags < threads * cache
        · have HT := Lib.hid (ht.out.trans (if_pos hf))
          have u3 : decide (threads * cache ≤ c.frags) = false := by simp; omega
          have u4 : decide (c.threads * c.cache ≤ c.frags) = true := by simp; omega
          have u1 : IntKind.i64.wrap (threads * cache) = threads * cache := IntWalk.i64_in _ (by omega)
          have u2 : IntKind.i64.wrap (c.threads * c.cache) = c.threads * c.cache := IntWalk.i64_in _ (by omega)
          clear hf hle hm hmc
          go_region_held3 (fun w' => w'.cell? ⟨X, 0, none⟩ = some (.int .i64 c.frags) ∧ w'.cell? ⟨X, 3, none⟩ = some (.int .i64 c.threads) ∧ w'.cell? ⟨X, 5, none⟩ = some (.int .i64 c.cache) ∧
              w'.cell? ⟨Y, 0, none⟩ = some (.int .i64 c.frags) ∧ w'.cell? ⟨Y, 1, none⟩ = some (.int .i64 c.spine) ∧ w'.cell? ⟨Y, 2, none⟩ = some (.int .i64 c.globals) ∧ w'.cell? ⟨Y, 3, none⟩ = some (.int .i64 threads) ∧
              w'.cell? ⟨Y, 4, none⟩ = some (.int .i64 c.locals) ∧ w'.cell? ⟨Y, 5, none⟩ = some (.int .i64 cache) ∧ w'.cell? ⟨Y, 6, none⟩ = some (.int .i64 c.stack) ∧ w'.cell? ⟨Y, 7, none⟩ = some (.int .i64 c.low) ∧ w'.cell? ⟨Y, 8, none⟩ = some (.slice A l.length cc) ∧ Pure w w')
            ((first | assumption | exact Two.keep W4 W4.drew H2.out ((Only.refl _ W4).drewN 1) | exact Two.keep _ _ (by assumption) ((Only.refl _ _).alloc _)))
            (first | (go_at_call 8; refine (withS (by assumption) (Two.keep (X := X) (Y := Y) (c := c) (d := ⟨c.frags, c.spine, c.globals, threads, c.locals, cache, c.stack, c.low⟩)) (first_any _)).mono ?_; rintro e w' ⟨rfl, hs⟩)
                   | (go_at_call 10; refine (withS (by assumption) (Two.keep (X := X) (Y := Y) (c := c) (d := ⟨c.frags, c.spine, c.globals, threads, c.locals, cache, c.stack, c.low⟩)) (Two.check (X := X) (Y := Y) (c := c) (d := ⟨c.frags, c.spine, c.globals, threads, c.locals, cache, c.stack, c.low⟩) (by assumption) HL.out HT.out)).mono ?_; rintro e w' ⟨rfl, hs⟩))
          all_goals
            go_wp2
            go_ret
            refine ⟨rfl, ?_⟩
            exact Two.pure (X := X) (Y := Y) (c := c) (d := ⟨c.frags, c.spine, c.globals, threads, c.locals, cache, c.stack, c.low⟩) (v := .slice A l.length cc) (by assumption)
        · have HT := Lib.hid (ht.out.trans (if_neg hf))
          have u3 : decide (threads * cache ≤ c.frags) = true := by simp; omega
          have u4 : decide (c.threads * c.cache ≤ c.frags) = true := by simp; omega
          have u1 : IntKind.i64.wrap (threads * cache) = threads * cache := IntWalk.i64_in _ (by omega)
          have u2 : IntKind.i64.wrap (c.threads * c.cache) = c.threads * c.cache := IntWalk.i64_in _ (by omega)
          clear hf hle hm hmc
          go_region_held3 (fun w' => w'.cell? ⟨X, 0, none⟩ = some (.int .i64 c.frags) ∧ w'.cell? ⟨X, 3, none⟩ = some (.int .i64 c.threads) ∧ w'.cell? ⟨X, 5, none⟩ = some (.int .i64 c.cache) ∧
              w'.cell? ⟨Y, 0, none⟩ = some (.int .i64 c.frags) ∧ w'.cell? ⟨Y, 1, none⟩ = some (.int .i64 c.spine) ∧ w'.cell? ⟨Y, 2, none⟩ = some (.int .i64 c.globals) ∧ w'.cell? ⟨Y, 3, none⟩ = some (.int .i64 threads) ∧
              w'.cell? ⟨Y, 4, none⟩ = some (.int .i64 c.locals) ∧ w'.cell? ⟨Y, 5, none⟩ = some (.int .i64 cache) ∧ w'.cell? ⟨Y, 6, none⟩ = some (.int .i64 c.stack) ∧ w'.cell? ⟨Y, 7, none⟩ = some (.int .i64 c.low) ∧ w'.cell? ⟨Y, 8, none⟩ = some (.slice A l.length cc) ∧ Pure w w')
            ((first | assumption | exact Two.keep W4 W4.drew H2.out ((Only.refl _ W4).drewN 1) | exact Two.keep _ _ (by assumption) ((Only.refl _ _).alloc _)))
            (first | (go_at_call 8; refine (withS (by assumption) (Two.keep (X := X) (Y := Y) (c := c) (d := ⟨c.frags, c.spine, c.globals, threads, c.locals, cache, c.stack, c.low⟩)) (first_any _)).mono ?_; rintro e w' ⟨rfl, hs⟩)
                   | (go_at_call 10; refine (withS (by assumption) (Two.keep (X := X) (Y := Y) (c := c) (d := ⟨c.frags, c.spine, c.globals, threads, c.locals, cache, c.stack, c.low⟩)) (Two.check (X := X) (Y := Y) (c := c) (d := ⟨c.frags, c.spine, c.globals, threads, c.locals, cache, c.stack, c.low⟩) (by assumption) HL.out HT.out)).mono ?_; rintro e w' ⟨rfl, hs⟩))
          all_goals
            go_wp2
            go_ret
            refine ⟨rfl, ?_⟩
            exact Two.pure (X := X) (Y := Y) (c := c) (d := ⟨c.frags, c.spine, c.globals, threads, c.locals, cache, c.stack, c.low⟩) (v := .slice A l.length cc) (by assumption)
    · rw [hk]
      rintro e w3 ⟨rfl, hp3⟩
      have R3 := Lib.hid (R2.out.keep hp3)
      clear hp3
      go_wp2_with fail
      refine (first_any _).mono ?_
      rintro e w8 ⟨rfl, hp8⟩
      have P8 := Lib.hid (R3.out.2.2.then hp8)
      clear hp8
      go_wp2
      go_ret
      exact ⟨rfl, P8.out⟩
    · rw [hk]
      rintro e w3 ⟨rfl, hp3⟩
      have R3 := Lib.hid (R2.out.keep hp3)
      clear hp3
      go_wp2_with fail
      refine (first_any _).mono ?_
      rintro e w8 ⟨rfl, hp8⟩
      have P8 := Lib.hid (R3.out.2.2.then hp8)
      clear hp8
      go_wp2
      go_ret
      exact ⟨rfl, P8.out⟩

theorem open_0 {H : Type} {enc : TypeId × Value → H} {W : World} {b0 base : Nat} {v : Value} {d : DataW H} {ps : List MemPlace} {r : Reach}
    (hval : Value.okWide Try.prog W r b0 24 v) (h : DataW.Trod enc Try.prog W base (fun _ => true) true 24 v d ps) : ∃ x : Cn × Value × List Sh, v = cnV x.1 x.2.1 ∧ ShsR W W.heap.size x.2.1 x.2.2 := open_conf hval h

theorem walk (w : World) (v : Value) (x : Cn × Value × List Sh) (h : v = cnV x.1 x.2.1 ∧ ShsR w w.heap.size x.2.1 x.2.2) (threads : Int) (_ht : -2^63 ≤ threads ∧ threads ≤ 2^63-1) (cache : Int) (_hc : -2^63 ≤ cache ∧ cache ≤ 2^63-1) :
    Calls Try.prog 3 #[v, .int .i64 threads, .int .i64 cache] w fun e w' => e = .returned (.bool true) ∧ Pure w w' := by
  obtain ⟨rfl, hs⟩ := h
  exact main x.1 x.2.1 x.2.2 threads cache w hs

set_option maxRecDepth 100000 in
theorem lifted (os : Os) (started : os.Started) (H : Type) (enc : TypeId × Value → H) :
    ReturnsInHanded {} Try.checked os 3 .any (Rows.confStocksSpec.pre6 enc Try.prog Try.f3 Rows.confStocksRow.domain false) (Rows.confStocksSpec.post enc Try.prog Try.f3 false true false false) :=
  lift_law (C := Try.checked) own started (by kernel_rfl) Try.func3 laidOut (by kernel_rfl) rfl rfl Try.underlying4
    (fun ds h => by match ds, h with | [_, _, _], _ => rfl)
    (ChangeSpec.witness6 (enc := enc) (C := Try.checked) false ⟨#[], #[.agg #[.int .i64 0, .int .i64 0, .int .i64 0, .int .i64 0, .int .i64 0, .int .i64 0, .int .i64 0, .int .i64 0, .slice none 0 0], .int .i64 0, .int .i64 0], []⟩ 8 (by kernel_rfl) (by kernel_rfl) (by kernel_rfl) (by kernel_rfl))
    (fun W base args ds ps hval hA hlt => by
      have hA' : DataW.TrodAll enc Try.prog W 0 (fun _ => true) true Try.f3.params.toList args.toList ds ps := hA
      rw [Try.params3] at hA'
      have hval' : ∀ (j : Nat) t v, Try.f3.params[j]? = some t → args[j]? = some v → Value.okWide Try.prog W .any base t v := hval
      rw [Try.params3] at hval'
      obtain ⟨v0, vs0, d0, ds0, p0, q0, hargs, rfl, rfl, h0, r0⟩ := trodAll_cons hA'
      obtain ⟨v1, vs1, d1, ds1, p1, q1, rfl, rfl, rfl, h1, r1⟩ := trodAll_cons r0
      obtain ⟨v2, vs2, d2, ds2, p2, q2, rfl, rfl, rfl, h2, r2⟩ := trodAll_cons r1
      obtain ⟨rfl, rfl, rfl⟩ := trodAll_nil r2
      obtain rfl : args = #[v0, v1, v2] := by cases args; simp_all
      obtain ⟨x0, s0⟩ := open_0 (hval' 0 24 v0 rfl rfl) h0
      obtain ⟨a1, rfl, rfl, rfl, w1⟩ := open_int Try.underlying3 (hval' 1 3 v1 rfl rfl) h1
      obtain ⟨a2, rfl, rfl, rfl, w2⟩ := open_int Try.underlying3 (hval' 2 3 v2 rfl rfl) h2
      exact (walk W _ x0 s0 a1 (int_bounds w1) a2 (int_bounds w2)).mono fun e W' ⟨he, hp⟩ => ⟨he, hp.below⟩)

/-- The statement. -/
theorem proved : Rows.ConfStocksSaid :=
  OpenClaim.holds_of_wide 3 Try.f3 rfl rfl rfl rfl rfl rfl rfl ⟨rfl, rfl, rfl, rfl, rfl⟩ rfl rfl rfl rfl rfl (by kernel_rfl) Try.func3 (by kernel_rfl)
    (of_decide_eq_true (by kernel_rfl)) (by unfold Func.isWrapper; first | (rw [if_pos (by decide +kernel)]; kernel_rfl) | (rw [if_neg (by decide +kernel)]; exact ⟨rfl, rfl⟩))
    (fun os started H enc _ => lifted os started H enc)
#print axioms proved

end Go.Proofs.Ythinbbhjfojhaaa.confStocks
