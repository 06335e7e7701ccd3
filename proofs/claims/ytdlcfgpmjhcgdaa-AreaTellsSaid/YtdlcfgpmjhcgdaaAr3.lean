/-
  AreaTells: any configuration, any numbers: addresses, and what they are of, as the reference tells. For every input.
-/
import Derived.Test.YtdlcfgpmjhcgdaaAr1
import Derived.Test.YtdlcfgpmjhcgdaaARef2
namespace Go.Proofs.Ytdlcfgpmjhcgdaa.areaTells
open Go.RowKit Go.ChangeShapes Go.WideShapes Go.ChangeAt

theorem CnAt.pure {w w1 : World} {X : Nat} {c : Cn} {v : Value} (h : CnAt w X c v w1) : Pure w w1 := h.2.2.2.2.2.2.2.2.2

set_option maxRecDepth 100000 in
set_option maxHeartbeats 2000000 in
theorem main (c : Cn) (v : Value) (l : List Sh) (i k a : Int) (ha : a ≤ 9223372036854775807) (w : World) (hl : ShsR w w.heap.size v l) :
    Calls Try.prog 4 #[cnV c v, .int .i64 i, .int .i64 k, .int .i64 a] w fun e w' => e = .returned (.bool true) ∧ Pure w w' := by
  have HL := Lib.hid (fun (w' : World) (hp : Pure w w') => hl.pure hp)
  obtain ⟨A, cc, rfl⟩ : ∃ A cc, v = .slice A l.length cc := by
    obtain ⟨⟨A, cc, rfl, _⟩, _⟩ := hl
    exact ⟨A, cc, rfl⟩
  have q1 := fun (w' : World) (hp : Pure w w') => frag_tot c (.slice A l.length cc) l w' (hl.pure hp) i k
  have q2 := fun (w' : World) (hp : Pure w w') => reffrag_tot c (.slice A l.length cc) l i k w' (hl.pure hp)
  have q3 := fun (w' : World) (hp : Pure w w') => spine_tot c (.slice A l.length cc) l w' (hl.pure hp) i k
  have q4 := fun (w' : World) (hp : Pure w w') => refspine_tot c (.slice A l.length cc) l i k w' (hl.pure hp)
  have q5 := fun (w' : World) (hp : Pure w w') => glob_tot c (.slice A l.length cc) l w' (hl.pure hp) i
  have q6 := fun (w' : World) (hp : Pure w w') => refglob_tot c (.slice A l.length cc) l i w' (hl.pure hp)
  have q7 := fun (w' : World) (hp : Pure w w') => of_any c (.slice A l.length cc) l a w' (hl.pure hp) ha
  have q8 := fun (w' : World) (hp : Pure w w') => refof_any c (.slice A l.length cc) l a w' (hl.pure hp) ha
  have q9 := fun (w' : World) (hp : Pure w w') => words_any c (.slice A l.length cc) l w' (hl.pure hp)
  have q10 := fun (w' : World) (hp : Pure w w') => refwords_any c (.slice A l.length cc) l w' (hl.pure hp)
  generalize (fragI c l i k).1 = f1 at q1 q2
  generalize (fragI c l i k).2 = f2 at q1 q2
  generalize (spineI c l i k).1 = s1 at q3 q4
  generalize (spineI c l i k).2 = s2 at q3 q4
  generalize (globI c l i).1 = g1 at q5 q6
  generalize (globI c l i).2 = g2 at q5 q6
  generalize (ofI (z0 c l) (z1 c l) (z3 c l) a).1 = o1 at q7 q8
  generalize (ofI (z0 c l) (z1 c l) (z3 c l) a).2.1 = o2 at q7 q8
  generalize (ofI (z0 c l) (z1 c l) (z3 c l) a).2.2 = o3 at q7 q8
  generalize z0 c l + z1 c l + z1 c l + z3 c l = N at q9 q10
  have Q1 := Lib.hid q1
  have Q2 := Lib.hid q2
  have Q3 := Lib.hid q3
  have Q4 := Lib.hid q4
  have Q5 := Lib.hid q5
  have Q6 := Lib.hid q6
  have Q7 := Lib.hid q7
  have Q8 := Lib.hid q8
  have Q9 := Lib.hid q9
  have Q10 := Lib.hid q10
  clear q1 q2 q3 q4 q5 q6 q7 q8 q9 q10
  clear hl
  go_enter Try.func4, Try.ntmps4
  go_wp2_with fail
  have hr := Row.new w c (.slice A l.length cc)
  generalize w.alloc _ = W at hr ⊢
  generalize w.heap.size = X at hr ⊢
  have R := Lib.hid hr
  clear hr
  refine (first_any _).mono ?_
  rintro e w1 ⟨rfl, hp1⟩
  have R1 := Lib.hid (R.out.keep hp1)
  clear hp1
  obtain ⟨c0, c1, c2, c3, c4, c5, c6, c7, c8, _⟩ := R1.out.cells
  go_wp2_with fail
  refine (few_tells c _ l _ (HL.out _ R1.out.2.2)).mono ?_
  rintro e w2 ⟨⟨b, rfl, -⟩, hp2⟩
  have R2 := Lib.hid (R1.out.keep hp2)
  clear hp2 c0 c1 c2 c3 c4 c5 c6 c7 c8
  obtain ⟨c0, c1, c2, c3, c4, c5, c6, c7, c8, _⟩ := R2.out.cells
  cases b with
  | false =>
    go_wp2_with fail
    refine (first_any _).mono ?_
    rintro e w8 ⟨rfl, hp8⟩
    have P8 := Lib.hid (R2.out.2.2.then hp8)
    clear hp8
    go_wp2
    go_ret
    exact ⟨rfl, P8.out⟩
  | true =>
    go_wp2_with fail
    refine (Q1.out _ R2.out.2.2).mono ?_
    rintro e wR3 ⟨rfl, hp⟩
    have R3 := Lib.hid (R2.out.keep hp)
    clear hp c0 c1 c2 c3 c4 c5 c6 c7 c8
    obtain ⟨c0, c1, c2, c3, c4, c5, c6, c7, c8, _⟩ := R3.out.cells
    go_wp2_with fail
    refine (Q2.out _ R3.out.2.2).mono ?_
    rintro e wR4 ⟨rfl, hp⟩
    have R4 := Lib.hid (R3.out.keep hp)
    clear hp c0 c1 c2 c3 c4 c5 c6 c7 c8
    obtain ⟨c0, c1, c2, c3, c4, c5, c6, c7, c8, _⟩ := R4.out.cells
    go_wp2_with fail
    refine (Q3.out _ R4.out.2.2).mono ?_
    rintro e wR5 ⟨rfl, hp⟩
    have R5 := Lib.hid (R4.out.keep hp)
    clear hp c0 c1 c2 c3 c4 c5 c6 c7 c8
    obtain ⟨c0, c1, c2, c3, c4, c5, c6, c7, c8, _⟩ := R5.out.cells
    go_wp2_with fail
    refine (Q4.out _ R5.out.2.2).mono ?_
    rintro e wR6 ⟨rfl, hp⟩
    have R6 := Lib.hid (R5.out.keep hp)
    clear hp c0 c1 c2 c3 c4 c5 c6 c7 c8
    obtain ⟨c0, c1, c2, c3, c4, c5, c6, c7, c8, _⟩ := R6.out.cells
    go_wp2_with fail
    refine (Q5.out _ R6.out.2.2).mono ?_
    rintro e wR7 ⟨rfl, hp⟩
    have R7 := Lib.hid (R6.out.keep hp)
    clear hp c0 c1 c2 c3 c4 c5 c6 c7 c8
    obtain ⟨c0, c1, c2, c3, c4, c5, c6, c7, c8, _⟩ := R7.out.cells
    go_wp2_with fail
    refine (Q6.out _ R7.out.2.2).mono ?_
    rintro e wR8 ⟨rfl, hp⟩
    have R8 := Lib.hid (R7.out.keep hp)
    clear hp c0 c1 c2 c3 c4 c5 c6 c7 c8
    obtain ⟨c0, c1, c2, c3, c4, c5, c6, c7, c8, _⟩ := R8.out.cells
    go_wp2_with fail
    refine (Q7.out _ R8.out.2.2).mono ?_
    rintro e wR9 ⟨rfl, hp⟩
    have R9 := Lib.hid (R8.out.keep hp)
    clear hp c0 c1 c2 c3 c4 c5 c6 c7 c8
    obtain ⟨c0, c1, c2, c3, c4, c5, c6, c7, c8, _⟩ := R9.out.cells
    go_wp2_with fail
    refine (Q8.out _ R9.out.2.2).mono ?_
    rintro e wR10 ⟨rfl, hp⟩
    have R10 := Lib.hid (R9.out.keep hp)
    clear hp c0 c1 c2 c3 c4 c5 c6 c7 c8
    obtain ⟨c0, c1, c2, c3, c4, c5, c6, c7, c8, _⟩ := R10.out.cells
    go_wp2_with fail
    have HC : Hid (CnAt w X c (.slice A l.length cc) wR10) := Lib.hid ⟨c0, c1, c2, c3, c4, c5, c6, c7, c8, R10.out.2.2⟩
    go_region_held3 (fun w' => w'.cell? ⟨X, 0, none⟩ = some (.int .i64 c.frags) ∧ w'.cell? ⟨X, 1, none⟩ = some (.int .i64 c.spine) ∧ w'.cell? ⟨X, 2, none⟩ = some (.int .i64 c.globals) ∧ w'.cell? ⟨X, 3, none⟩ = some (.int .i64 c.threads) ∧ w'.cell? ⟨X, 4, none⟩ = some (.int .i64 c.locals) ∧ w'.cell? ⟨X, 5, none⟩ = some (.int .i64 c.cache) ∧ w'.cell? ⟨X, 6, none⟩ = some (.int .i64 c.stack) ∧ w'.cell? ⟨X, 7, none⟩ = some (.int .i64 c.low) ∧ w'.cell? ⟨X, 8, none⟩ = some (.slice A l.length cc) ∧ Pure w w')
      ((first | assumption | exact CnAt.keep wR10 wR10.drew HC.out ((Only.refl _ wR10).drewN 1)))
      (first | (go_at_call 7; refine (withS (by assumption) (CnAt.keep (X := X) (c := c)) (first_any _)).mono ?_; rintro e w' ⟨rfl, hs⟩)
             | (go_at_call 12; refine (withS (by assumption) (CnAt.keep (X := X) (c := c)) (Q9.out _ (CnAt.pure (X := X) (c := c) (v := .slice A l.length cc) (by assumption)))).mono ?_; rintro e w' ⟨rfl, hs⟩)
             | (go_at_call 19; refine (withS (by assumption) (CnAt.keep (X := X) (c := c)) (Q10.out _ (CnAt.pure (X := X) (c := c) (v := .slice A l.length cc) (by assumption)))).mono ?_; rintro e w' ⟨rfl, hs⟩))
    all_goals
      go_wp2
      go_ret
      exact ⟨rfl, (CnAt.pure (X := X) (c := c) (v := .slice A l.length cc) (by assumption))⟩

theorem open_0 {H : Type} {enc : TypeId × Value → H} {W : World} {b0 base : Nat} {v : Value} {d : DataW H} {ps : List MemPlace} {r : Reach}
    (hval : Value.okWide Try.prog W r b0 24 v) (h : DataW.Trod enc Try.prog W base (fun _ => true) true 24 v d ps) : ∃ x : Cn × Value × List Sh, v = cnV x.1 x.2.1 ∧ ShsR W W.heap.size x.2.1 x.2.2 := open_conf hval h

theorem walk (w : World) (v : Value) (x : Cn × Value × List Sh) (h : v = cnV x.1 x.2.1 ∧ ShsR w w.heap.size x.2.1 x.2.2) (i : Int) (_hi : -2^63 ≤ i ∧ i ≤ 2^63-1) (k : Int) (_hk : -2^63 ≤ k ∧ k ≤ 2^63-1) (a : Int) (_ha : -2^63 ≤ a ∧ a ≤ 2^63-1) :
    Calls Try.prog 4 #[v, .int .i64 i, .int .i64 k, .int .i64 a] w fun e w' => e = .returned (.bool true) ∧ Pure w w' := by
  obtain ⟨rfl, hs⟩ := h
  exact main x.1 x.2.1 x.2.2 i k a _ha.2 w hs

set_option maxRecDepth 100000 in
theorem lifted (os : Os) (started : os.Started) (H : Type) (enc : TypeId × Value → H) :
    ReturnsInHanded {} Try.checked os 4 .any (Rows.areaTellsSpec.pre6 enc Try.prog Try.f4 Rows.areaTellsRow.domain false) (Rows.areaTellsSpec.post enc Try.prog Try.f4 false true false false) :=
  lift_law (C := Try.checked) own started (by kernel_rfl) Try.func4 laidOut (by kernel_rfl) rfl rfl Try.underlying4
    (fun ds h => by match ds, h with | [_, _, _, _], _ => rfl)
    (ChangeSpec.witness6 (enc := enc) (C := Try.checked) false ⟨#[], #[.agg #[.int .i64 0, .int .i64 0, .int .i64 0, .int .i64 0, .int .i64 0, .int .i64 0, .int .i64 0, .int .i64 0, .slice none 0 0], .int .i64 0, .int .i64 0, .int .i64 0], []⟩ 8 (by kernel_rfl) (by kernel_rfl) (by kernel_rfl) (by kernel_rfl))
    (fun W base args ds ps hval hA hlt => by
      have hA' : DataW.TrodAll enc Try.prog W 0 (fun _ => true) true Try.f4.params.toList args.toList ds ps := hA
      rw [Try.params4] at hA'
      have hval' : ∀ (j : Nat) t v, Try.f4.params[j]? = some t → args[j]? = some v → Value.okWide Try.prog W .any base t v := hval
      rw [Try.params4] at hval'
      obtain ⟨v0, vs0, d0, ds0, p0, q0, hargs, rfl, rfl, h0, r0⟩ := trodAll_cons hA'
      obtain ⟨v1, vs1, d1, ds1, p1, q1, rfl, rfl, rfl, h1, r1⟩ := trodAll_cons r0
      obtain ⟨v2, vs2, d2, ds2, p2, q2, rfl, rfl, rfl, h2, r2⟩ := trodAll_cons r1
      obtain ⟨v3, vs3, d3, ds3, p3, q3, rfl, rfl, rfl, h3, r3⟩ := trodAll_cons r2
      obtain ⟨rfl, rfl, rfl⟩ := trodAll_nil r3
      obtain rfl : args = #[v0, v1, v2, v3] := by cases args; simp_all
      obtain ⟨x0, s0⟩ := open_0 (hval' 0 24 v0 rfl rfl) h0
      obtain ⟨a1, rfl, rfl, rfl, w1⟩ := open_int Try.underlying3 (hval' 1 3 v1 rfl rfl) h1
      obtain ⟨a2, rfl, rfl, rfl, w2⟩ := open_int Try.underlying3 (hval' 2 3 v2 rfl rfl) h2
      obtain ⟨a3, rfl, rfl, rfl, w3⟩ := open_int Try.underlying3 (hval' 3 3 v3 rfl rfl) h3
      exact (walk W _ x0 s0 a1 (int_bounds w1) a2 (int_bounds w2) a3 (int_bounds w3)).mono fun e W' ⟨he, hp⟩ => ⟨he, hp.below⟩)

/-- The statement. -/
theorem proved : Rows.AreaTellsSaid :=
  OpenClaim.holds_of_wide 4 Try.f4 rfl rfl rfl rfl rfl rfl rfl ⟨rfl, rfl, rfl, rfl, rfl⟩ rfl rfl rfl rfl rfl (by kernel_rfl) Try.func4 (by kernel_rfl)
    (of_decide_eq_true (by kernel_rfl)) (by unfold Func.isWrapper; first | (rw [if_pos (by decide +kernel)]; kernel_rfl) | (rw [if_neg (by decide +kernel)]; exact ⟨rfl, rfl⟩))
    (fun os started H enc _ => lifted os started H enc)
#print axioms proved

end Go.Proofs.Ytdlcfgpmjhcgdaa.areaTells
