/-
  ConfTells: any configuration: whether it may be, its shapes, its copy, as the reference tells. For every input.
-/
import Derived.Test.YthinbbhjfojhaaaCfSame
namespace Go.Proofs.Ythinbbhjfojhaaa.confTells
open Go.RowKit Go.ChangeShapes Go.WideShapes Go.ChangeAt
open Go.Proofs.Ythinbbhjfojhaaa.confSmall (Row Row.new Row.keep Row.cells Row.keepSet first_any)

/-- The configuration in block X, both shapes in blocks Y and Z. -/
def Tel (w : World) (X Y Z : Nat) (c : Cn) (v : Value) (a : Bool) (s t : Value) (w' : World) : Prop :=
  w'.cell? ⟨X, 0, none⟩ = some (.int .i64 c.frags) ∧ w'.cell? ⟨X, 1, none⟩ = some (.int .i64 c.spine) ∧ w'.cell? ⟨X, 2, none⟩ = some (.int .i64 c.globals) ∧ w'.cell? ⟨X, 3, none⟩ = some (.int .i64 c.threads) ∧
  w'.cell? ⟨X, 4, none⟩ = some (.int .i64 c.locals) ∧ w'.cell? ⟨X, 5, none⟩ = some (.int .i64 c.cache) ∧ w'.cell? ⟨X, 6, none⟩ = some (.int .i64 c.stack) ∧ w'.cell? ⟨X, 7, none⟩ = some (.int .i64 c.low) ∧ w'.cell? ⟨X, 8, none⟩ = some v ∧
  w'.cell? ⟨Y, 0, none⟩ = some (.bool a) ∧ w'.cell? ⟨Y, 1, none⟩ = some s ∧ w'.cell? ⟨Z, 0, none⟩ = some (.bool a) ∧ w'.cell? ⟨Z, 1, none⟩ = some t ∧ Pure w w'
theorem Tel.keep {w : World} {X Y Z : Nat} {c : Cn} {v : Value} {a : Bool} {s t : Value} (p q : World) (h : Tel w X Y Z c v a s t p) (k : Pure p q) : Tel w X Y Z c v a s t q := by
  obtain ⟨h0, h1, h2, h3, h4, h5, h6, h7, h8, y0, y1, z0, z1, h9⟩ := h
  exact ⟨k.keep h0, k.keep h1, k.keep h2, k.keep h3, k.keep h4, k.keep h5, k.keep h6, k.keep h7, k.keep h8, k.keep y0, k.keep y1, k.keep z0, k.keep z1, h9.then k⟩
theorem Tel.pure {w w1 : World} {X Y Z : Nat} {c : Cn} {v : Value} {a : Bool} {s t : Value} (h : Tel w X Y Z c v a s t w1) : Pure w w1 := h.2.2.2.2.2.2.2.2.2.2.2.2.2
theorem Tel.copy {w w1 : World} {X Y Z : Nat} {c : Cn} {v : Value} {a : Bool} {s t : Value} {l : List Sh} (h : Tel w X Y Z c v a s t w1) (HL : ∀ w', Pure w w' → ShsR w' w'.heap.size v l) (hn : l.length ≤ 1000) (hx : ∀ s ∈ l, s.bs.length ≤ 1000000) :
    Calls Try.prog 11 #[cnV c v] w1 fun e w' => ∃ A d, e = .returned (cnV c (.slice A l.length d)) ∧ Tel w X Y Z c v a s t w' ∧ Hid (∃ m, ShsR w' w'.heap.size (.slice A l.length d) m ∧ alike m l) :=
  (copy_any c v l w1 (HL _ h.pure) hn hx).mono fun _ _ ⟨A, d, m, he, hp, ho, hs, _, hl⟩ => ⟨A, d, he, Tel.keep _ _ h hp, Lib.hid ⟨m, ShsR.of_own ho hs, Eq.symm hl⟩⟩
theorem Tel.same {w w1 : World} {X Y Z : Nat} {c : Cn} {v u : Value} {a : Bool} {s t : Value} {l : List Sh} (h : Tel w X Y Z c v a s t w1) (hm : Hid (∃ m, ShsR w1 w1.heap.size u m ∧ alike m l)) (HL : ∀ w', Pure w w' → ShsR w' w'.heap.size v l) :
    Calls Try.prog 15 #[cnV c u, cnV c v] w1 fun e w' => e = .returned (.bool true) ∧ Pure w1 w' := by
  obtain ⟨m, h1, h2⟩ := hm.out
  exact sameconf_any c u v m l w1 h1 (HL _ h.pure) h2

set_option maxRecDepth 100000 in
set_option maxHeartbeats 2000000 in
theorem main (c : Cn) (v : Value) (l : List Sh) (kind : Int) (w : World) (hl : ShsR w w.heap.size v l) :
    Calls Try.prog 6 #[cnV c v, .int .i64 kind] w fun e w' => e = .returned (.bool true) ∧ Pure w w' := by
  have HL := Lib.hid (fun (w' : World) (hp : Pure w w') => hl.pure hp)
  obtain ⟨A, cc, rfl⟩ : ∃ A cc, v = .slice A l.length cc := by
    obtain ⟨⟨A, cc, rfl, _⟩, _⟩ := hl
    exact ⟨A, cc, rfl⟩
  have HL0 := Lib.hid hl
  clear hl
  go_enter Try.func6, Try.ntmps6
  go_wp2_with fail
  have hr := Row.new w c (.slice A l.length cc)
  generalize w.alloc _ = W at hr ⊢
  generalize hXe : w.heap.size = X at hr ⊢
  have R := Lib.hid hr
  clear hr hXe
  refine (first_any _).mono ?_
  rintro e w1 ⟨rfl, hp1⟩
  have R1 := Lib.hid (R.out.keep hp1)
  clear hp1
  obtain ⟨c0, c1, c2, c3, c4, c5, c6, c7, c8, _⟩ := R1.out.cells
  go_wp2_with fail
  refine (few_tells c _ l _ (HL.out _ R1.out.2.2)).mono ?_
  rintro e w2 ⟨⟨b, rfl, hfew⟩, hp2⟩
  have FEW := Lib.hid hfew
  have R2 := Lib.hid (R1.out.keep hp2)
  clear hp2 hfew c0 c1 c2 c3 c4 c5 c6 c7 c8
  obtain ⟨c0, c1, c2, c3, c4, c5, c6, c7, c8, _⟩ := R2.out.cells
  cases b with
  | false =>
    go_wp2_with fail
    refine (first_any _).mono ?_
    rintro e w8 ⟨rfl, hp8⟩
    have P8 := Lib.hid (R2.out.2.2.then hp8)
    clear hp8
    go_wp2
    go_ret
    exact ⟨rfl, P8.out⟩
  | true =>
    obtain ⟨hn, hbs⟩ := FEW.out rfl
    have HBS := Lib.hid (fun s hs => Nat.le_trans (hbs s hs) (by omega : 1000 ≤ 1000000))
    clear hbs
    obtain ⟨a, n, ok, hnn, hsA, hsB⟩ := shape_both c _ l w kind HL0.out HBS.out
    have SA := Lib.hid hsA
    have SB := Lib.hid hsB
    clear hsA hsB
    go_wp2_with fail
    refine (SA.out _ R2.out.2.2).mono ?_
    rintro e w3 ⟨A3, d3, rfl, hp3⟩
    have R3 := Lib.hid ((R2.out.keep hp3).keep ((Only.refl _ _).alloc (.cells #[.bool a, .slice A3 n d3] 32)))
    have HY := Lib.hid (heap_alloc_new w3 (.cells #[.bool a, .slice A3 n d3] 32))
    clear hp3 c0 c1 c2 c3 c4 c5 c6 c7 c8
    obtain ⟨c0, c1, c2, c3, c4, c5, c6, c7, c8, _⟩ := R3.out.cells
    go_wp2_with fail
    generalize w3.alloc (.cells #[.bool a, .slice A3 n d3] 32) = W3 at *
    generalize w3.heap.size = Y at HY ⊢
    refine (SB.out _ R3.out.2.2).mono ?_
    rintro e w4 ⟨A4, d4, rfl, hp4⟩
    have hp4' : Pure W3 (w4.alloc (.cells #[.bool a, .slice A4 n d4] 32)) := hp4.alloc _
    have hR4 := (R3.out.keep hp4')
    have hZ := heap_alloc_new w4 (.cells #[.bool a, .slice A4 n d4] 32)
    have hY4 := (hp4'.block Y (Array.getElem?_eq_some_iff.1 HY.out).1 (fun f => f)).trans HY.out
    clear hp4 hp4' c0 c1 c2 c3 c4 c5 c6 c7 c8
    have hT : Tel w X Y w4.heap.size c (.slice A l.length cc) a (.slice A3 n d3) (.slice A4 n d4) (w4.alloc (.cells #[.bool a, .slice A4 n d4] 32)) := by
      obtain ⟨c0, c1, c2, c3, c4, c5, c6, c7, c8, _⟩ := hR4.cells
      refine ⟨c0, c1, c2, c3, c4, c5, c6, c7, c8, ?_, ?_, ?_, ?_, hR4.2.2⟩
      · rw [cell_of_row _ _ _ _ _ _ hY4]; rfl
      · rw [cell_of_row _ _ _ _ _ _ hY4]; rfl
      · rw [cell_of_row _ _ _ _ _ _ hZ]; rfl
      · rw [cell_of_row _ _ _ _ _ _ hZ]; rfl
    have HT := Lib.hid hT
    clear hT hR4 hZ hY4
    go_wp2_with fail
    generalize w4.alloc (.cells #[.bool a, .slice A4 n d4] 32) = W4 at HT ⊢
    generalize w4.heap.size = Z at HT ⊢
    obtain ⟨x0, x1, x2, x3, x4, x5, x6, x7, x8, y0, y1, z0, z1, _⟩ := HT.out
    go_region_held3 (fun w' => w'.cell? ⟨X, 0, none⟩ = some (.int .i64 c.frags) ∧ w'.cell? ⟨X, 1, none⟩ = some (.int .i64 c.spine) ∧ w'.cell? ⟨X, 2, none⟩ = some (.int .i64 c.globals) ∧ w'.cell? ⟨X, 3, none⟩ = some (.int .i64 c.threads) ∧
        w'.cell? ⟨X, 4, none⟩ = some (.int .i64 c.locals) ∧ w'.cell? ⟨X, 5, none⟩ = some (.int .i64 c.cache) ∧ w'.cell? ⟨X, 6, none⟩ = some (.int .i64 c.stack) ∧ w'.cell? ⟨X, 7, none⟩ = some (.int .i64 c.low) ∧ w'.cell? ⟨X, 8, none⟩ = some (.slice A l.length cc) ∧
        w'.cell? ⟨Y, 0, none⟩ = some (.bool a) ∧ w'.cell? ⟨Y, 1, none⟩ = some (.slice A3 n d3) ∧ w'.cell? ⟨Z, 0, none⟩ = some (.bool a) ∧ w'.cell? ⟨Z, 1, none⟩ = some (.slice A4 n d4) ∧ Pure w w')
      ((first | assumption | exact Tel.keep W4 W4.drew HT.out ((Only.refl _ W4).drewN 1)))
      (first | (go_at_call 8; refine (withS (by assumption) (Tel.keep (X := X) (Y := Y) (Z := Z) (c := c) (a := a)) (first_any _)).mono ?_; rintro e w' ⟨rfl, hs⟩)
             | (go_at_call 10; refine (withS (by assumption) (Tel.keep (X := X) (Y := Y) (Z := Z) (c := c) (a := a)) (check_any c _ l _ (HL.out _ (Tel.pure (X := X) (Y := Y) (Z := Z) (c := c) (a := a) (v := .slice A l.length cc) (s := .slice A3 n d3) (t := .slice A4 n d4) (by assumption))))).mono ?_; rintro e w' ⟨rfl, hs⟩)
             | (go_at_call 14; refine (withS (by assumption) (Tel.keep (X := X) (Y := Y) (Z := Z) (c := c) (a := a)) (refcheck_any c _ l _ (HL.out _ (Tel.pure (X := X) (Y := Y) (Z := Z) (c := c) (a := a) (v := .slice A l.length cc) (s := .slice A3 n d3) (t := .slice A4 n d4) (by assumption))))).mono ?_; rintro e w' ⟨rfl, hs⟩)
             | (go_at_call 11; refine (Tel.copy (X := X) (Y := Y) (Z := Z) (c := c) (a := a) (v := .slice A l.length cc) (s := .slice A3 n d3) (t := .slice A4 n d4) (by assumption) HL.out (by omega) HBS.out).mono ?_; rintro e w' ⟨A7, d7, rfl, hs, hm⟩)
             | (go_at_call 15; refine (withS (by assumption) (Tel.keep (X := X) (Y := Y) (Z := Z) (c := c) (a := a)) (Tel.same (X := X) (Y := Y) (Z := Z) (c := c) (a := a) (v := .slice A l.length cc) (s := .slice A3 n d3) (t := .slice A4 n d4) (l := l) (by assumption) (by assumption) HL.out)).mono ?_; rintro e w' ⟨rfl, hs⟩))
    all_goals
      go_wp2
      go_ret
      exact ⟨rfl, Tel.pure (X := X) (Y := Y) (Z := Z) (c := c) (a := a) (v := .slice A l.length cc) (s := .slice A3 n d3) (t := .slice A4 n d4) (by assumption)⟩

theorem open_0 {H : Type} {enc : TypeId × Value → H} {W : World} {b0 base : Nat} {v : Value} {d : DataW H} {ps : List MemPlace} {r : Reach}
    (hval : Value.okWide Try.prog W r b0 24 v) (h : DataW.Trod enc Try.prog W base (fun _ => true) true 24 v d ps) : ∃ x : Cn × Value × List Sh, v = cnV x.1 x.2.1 ∧ ShsR W W.heap.size x.2.1 x.2.2 := open_conf hval h

theorem walk (w : World) (v : Value) (x : Cn × Value × List Sh) (h : v = cnV x.1 x.2.1 ∧ ShsR w w.heap.size x.2.1 x.2.2) (kind : Int) (_hk : -2^63 ≤ kind ∧ kind ≤ 2^63-1) :
    Calls Try.prog 6 #[v, .int .i64 kind] w fun e w' => e = .returned (.bool true) ∧ Pure w w' := by
  obtain ⟨rfl, hs⟩ := h
  exact main x.1 x.2.1 x.2.2 kind w hs

set_option maxRecDepth 100000 in
theorem lifted (os : Os) (started : os.Started) (H : Type) (enc : TypeId × Value → H) :
    ReturnsInHanded {} Try.checked os 6 .any (Rows.confTellsSpec.pre6 enc Try.prog Try.f6 Rows.confTellsRow.domain false) (Rows.confTellsSpec.post enc Try.prog Try.f6 false true false false) :=
  lift_law (C := Try.checked) own started (by kernel_rfl) Try.func6 laidOut (by kernel_rfl) rfl rfl Try.underlying4
    (fun ds h => by match ds, h with | [_, _], _ => rfl)
    (ChangeSpec.witness6 (enc := enc) (C := Try.checked) false ⟨#[], #[.agg #[.int .i64 0, .int .i64 0, .int .i64 0, .int .i64 0, .int .i64 0, .int .i64 0, .int .i64 0, .int .i64 0, .slice none 0 0], .int .i64 0], []⟩ 8 (by kernel_rfl) (by kernel_rfl) (by kernel_rfl) (by kernel_rfl))
    (fun W base args ds ps hval hA hlt => by
      have hA' : DataW.TrodAll enc Try.prog W 0 (fun _ => true) true Try.f6.params.toList args.toList ds ps := hA
      rw [Try.params6] at hA'
      have hval' : ∀ (j : Nat) t v, Try.f6.params[j]? = some t → args[j]? = some v → Value.okWide Try.prog W .any base t v := hval
      rw [Try.params6] at hval'
      obtain ⟨v0, vs0, d0, ds0, p0, q0, hargs, rfl, rfl, h0, r0⟩ := trodAll_cons hA'
      obtain ⟨v1, vs1, d1, ds1, p1, q1, rfl, rfl, rfl, h1, r1⟩ := trodAll_cons r0
      obtain ⟨rfl, rfl, rfl⟩ := trodAll_nil r1
      obtain rfl : args = #[v0, v1] := by cases args; simp_all
      obtain ⟨x0, s0⟩ := open_0 (hval' 0 24 v0 rfl rfl) h0
      obtain ⟨a1, rfl, rfl, rfl, w1⟩ := open_int Try.underlying3 (hval' 1 3 v1 rfl rfl) h1
      exact (walk W _ x0 s0 a1 (int_bounds w1)).mono fun e W' ⟨he, hp⟩ => ⟨he, hp.below⟩)

/-- The statement. -/
theorem proved : Rows.ConfTellsSaid :=
  OpenClaim.holds_of_wide 6 Try.f6 rfl rfl rfl rfl rfl rfl rfl ⟨rfl, rfl, rfl, rfl, rfl⟩ rfl rfl rfl rfl rfl (by kernel_rfl) Try.func6 (by kernel_rfl)
    (of_decide_eq_true (by kernel_rfl)) (by unfold Func.isWrapper; first | (rw [if_pos (by decide +kernel)]; kernel_rfl) | (rw [if_neg (by decide +kernel)]; exact ⟨rfl, rfl⟩))
    (fun os started H enc _ => lifted os started H enc)
#print axioms proved

end Go.Proofs.Ythinbbhjfojhaaa.confTells
