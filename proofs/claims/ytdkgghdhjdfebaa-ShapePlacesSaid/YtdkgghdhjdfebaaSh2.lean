/-
  ShapeKinds: which of the fields are references changes neither size nor places. For every input.
-/
import Derived.Test.YtdkgghdhjdfebaaSh1
namespace Go.Proofs.Ytdkgghdhjdfebaa.shapeKinds
open Go.RowKit Go.ChangeShapes Go.WideShapes Go.ChangeAt

theorem out (A B : Option Addr) (n m c d : Nat) (w : World) (hn : n ≤ 9223372036854775807) (hm : m ≤ 9223372036854775807) (h : (n ≠ m) ∨ (n = m ∧ 40 < n)) :
    Calls Try.prog 6 #[.slice A n c, .slice B m d] w fun e w' => e = .returned (.bool true) ∧ Pure w w' := by
  rcases h with h | ⟨rfl, h⟩
  · have h' : ((n : Int) != m) = true := by rw [bne_iff_ne]; omega
    clear h
    go_enter Try.func6, Try.ntmps6
    go_wp2_with fail
    refine (first_any _).mono ?_
    rintro e w1 ⟨rfl, hp1⟩
    have P1 := Lib.hid hp1
    clear hp1
    go_wp2_with fail
    refine (first_any _).mono ?_
    rintro e w8 ⟨rfl, hp8⟩
    have P8 := Lib.hid hp8
    clear hp8
    go_wp2
    go_ret
    exact ⟨rfl, P1.out.then P8.out⟩
  · go_enter Try.func6, Try.ntmps6
    go_wp2_with fail
    refine (first_any _).mono ?_
    rintro e w1 ⟨rfl, hp1⟩
    have P1 := Lib.hid hp1
    clear hp1
    go_wp2_with fail
    refine (first_any _).mono ?_
    rintro e w8 ⟨rfl, hp8⟩
    have P8 := Lib.hid hp8
    clear hp8
    go_wp2
    go_ret
    exact ⟨rfl, P1.out.then P8.out⟩

/-- Two shapes in blocks X and X + 1. -/
def Two (w : World) (X : Nat) (A B : Option Addr) (n c d : Nat) (w' : World) : Prop :=
  w'.cell? ⟨X, 0, none⟩ = some (.bool false) ∧ w'.cell? ⟨X, 1, none⟩ = some (.slice A n c) ∧ w'.cell? ⟨X + 1, 0, none⟩ = some (.bool false) ∧ w'.cell? ⟨X + 1, 1, none⟩ = some (.slice B n d) ∧ Pure w w'
theorem Two.keep {w : World} {X : Nat} {A B : Option Addr} {n c d : Nat} (a b : World) (h : Two w X A B n c d a) (k : Pure a b) : Two w X A B n c d b :=
  ⟨k.keep h.1, k.keep h.2.1, k.keep h.2.2.1, k.keep h.2.2.2.1, h.2.2.2.2.then k⟩

set_option maxRecDepth 100000 in
theorem main (A B : Option Addr) (n c d : Nat) (w : World) (hn : n ≤ 40) :
    Calls Try.prog 6 #[.slice A n c, .slice B n d] w fun e w' => e = .returned (.bool true) ∧ Pure w w' := by
  have hmay : mayB false n = true := by simp [mayB, hn]
  go_enter Try.func6, Try.ntmps6
  go_wp2_with fail
  refine (first_any _).mono ?_
  rintro e w1 ⟨rfl, hp1⟩
  have P1 := Lib.hid hp1
  clear hp1
  go_wp2_with fail
  have hT : Two w w1.heap.size A B n c d ((w1.alloc (.cells #[.bool false, .slice A n c] 24)).alloc (.cells #[.bool false, .slice B n d] 24)) := ⟨by simp, by simp, by simp, by simp, (P1.out.alloc _).alloc _⟩
  generalize (w1.alloc (.cells #[.bool false, .slice A n c] 24)).alloc (.cells #[.bool false, .slice B n d] 24) = W at *
  generalize w1.heap.size = X at *
  have hT0 := hT
  obtain ⟨a0, a1, b0, b1, hT4⟩ := hT0
  have HT := Lib.hid hT
  clear hT hT4
  go_region_held3 (fun w' => w'.cell? ⟨X, 0, none⟩ = some (.bool false) ∧ w'.cell? ⟨X, 1, none⟩ = some (.slice A n c) ∧ w'.cell? ⟨X + 1, 0, none⟩ = some (.bool false) ∧ w'.cell? ⟨X + 1, 1, none⟩ = some (.slice B n d) ∧ Pure w w') ((first | assumption | exact Two.keep W W.drew HT.out ((Only.refl _ W).drewN 1)))
    (first
      | (go_at_call_of 10 (Value.agg #[Value.bool false, Value.slice A n c]); refine (withS (by assumption) (Two.keep (A := A) (B := B) (n := n) (c := c) (d := d)) (size_any false A n c 0 _ (by omega))).mono ?_; rintro e w' ⟨rfl, hs⟩)
      | (go_at_call_of 10 (Value.agg #[Value.bool false, Value.slice B n d]); refine (withS (by assumption) (Two.keep (A := A) (B := B) (n := n) (c := c) (d := d)) (size_any false B n d 0 _ (by omega))).mono ?_; rintro e w' ⟨rfl, hs⟩)
      | (go_at_call_of 9 (Value.agg #[Value.bool false, Value.slice A n c]); refine (withS (by assumption) (Two.keep (A := A) (B := B) (n := n) (c := c) (d := d)) (may_any false A n c _ (by omega))).mono ?_; rintro e w' ⟨rfl, hs⟩; rw [hmay])
      | (go_at_call_of 9 (Value.agg #[Value.bool false, Value.slice B n d]); refine (withS (by assumption) (Two.keep (A := A) (B := B) (n := n) (c := c) (d := d)) (may_any false B n d _ (by omega))).mono ?_; rintro e w' ⟨rfl, hs⟩; rw [hmay]))
  rename_i hs
  have HS : Hid (Two w X A B n c d _) := hs
  clear hs a0 a1 b0 b1 HT hmay
  go_wp2_with fail
  go_loopw [7] (fun i wr => ∃ j : Nat, j ≤ n + 2 ∧ i = .int .i64 ((j : Int) - 1) ∧ Two w X A B n c d wr) (fun i _ => (n + 1 - intOf i).toNat)
  case atStart => exact ⟨0, by omega, rfl, HS.out⟩
  case round =>
    obtain ⟨j, hj, rfl, hT⟩ := hrel
    have hT0 := hT
    obtain ⟨a0, a1, b0, b1, hT4⟩ := hT0
    have HT := Lib.hid hT
    clear hT hT4
    obtain ⟨k, hk⟩ : ∃ k : Int, k = (j : Int) - 1 := ⟨_, rfl⟩
    rw [← hk]
    have hk0 : -1 ≤ k := by omega
    have hj' : j = (k + 1).toNat := by omega
    have hj1 : (j : Int) ≤ k + 1 := by omega
    have hj2 : k + 1 ≤ (j : Int) := by omega
    have HJ := Lib.hid hj'
    have HK := Lib.hid hk
    clear hj' hk
    by_cases hle : k ≤ n
    · by_cases hin : 0 ≤ k ∧ k < n
      · obtain ⟨h0, h1⟩ := hin
        have hp : placeOk false n k = true := by simp [placeOk, mayB, hn, h0, h1]
        have HP := Lib.hid hp
        clear hp
        go_wp2_with fail
        refine (place_yes false A n c k _ (by omega) HP.out).mono ?_
        rintro e w2 ⟨rfl, hp2⟩
        have hT2 := Two.keep _ _ HT.out hp2
        obtain ⟨a0', a1', b0', b1', hT4⟩ := hT2
        have HT2 : Hid (Two w X A B n c d w2) := ⟨a0', a1', b0', b1', hT4⟩
        clear hp2 hT4 a0' a1'
        go_wp2_with fail
        refine (place_yes false B n d k _ (by omega) HP.out).mono ?_
        rintro e w3 ⟨rfl, hp3⟩
        have HT3 := Lib.hid (Two.keep _ _ HT2.out hp3)
        clear hp3
        go_wp2_with fail
        go_roundw
        case rel => exact ⟨j + 1, by omega, by rw [HK.out]; go_num, HT3.out⟩
        case measure => simp [intOf]; omega
      · have hout : (k < 0) ∨ (¬ k < 0 ∧ ¬ k < n) := by omega
        have hp : placeOk false n k = false := by simp [placeOk]; omega
        have HP := Lib.hid hp
        clear hp hin
        rcases hout with h0 | ⟨h0, h1⟩
        all_goals
          go_wp2_with fail
          refine (place_no false A n c k _ (by omega) HP.out).mono ?_
          rintro e w2 ⟨rfl, hp2⟩
          have hT2 := Two.keep _ _ HT.out hp2
          obtain ⟨a0', a1', b0', b1', hT4⟩ := hT2
          have HT2 : Hid (Two w X A B n c d w2) := ⟨a0', a1', b0', b1', hT4⟩
          clear hp2 hT4 a0' a1'
          go_wp2_with fail
          refine (place_no false B n d k _ (by omega) HP.out).mono ?_
          rintro e w3 ⟨rfl, hp3⟩
          have HT3 := Lib.hid (Two.keep _ _ HT2.out hp3)
          clear hp3
          go_wp2_with fail
          go_roundw
          case rel => exact ⟨j + 1, by omega, by rw [HK.out]; go_num, HT3.out⟩
          case measure => simp [intOf]; omega
    · go_wp2_with fail
      refine (first_any _).mono ?_
      rintro e w8 ⟨rfl, hp8⟩
      have P8 := Lib.hid hp8
      clear hp8
      go_wp2
      go_ret
      exact ⟨rfl, HT.out.2.2.2.2.then P8.out⟩

theorem walk (w : World) (v0 : Value) (es : List Bool) (h0 : SlG w w.heap.size v0 (bools es)) (v1 : Value) (bs : List Bool) (h1 : SlG w w.heap.size v1 (bools bs)) :
    Calls Try.prog 6 #[v0, v1] w fun e w' => e = .returned (.bool true) ∧ Pure w w' := by
  obtain ⟨A, c, rfl, hc, hm, _⟩ := h0
  obtain ⟨B, d, rfl, hd, hm', _⟩ := h1
  by_cases h : (bools es).length ≠ (bools bs).length ∨ ((bools es).length = (bools bs).length ∧ 40 < (bools es).length)
  · exact out A B _ _ c d w (by omega) (by omega) h
  · obtain e : (bools es).length = (bools bs).length := by omega
    rw [← e]
    exact main A B _ c d w (by omega)

set_option maxRecDepth 100000 in
theorem lifted (os : Os) (started : os.Started) (H : Type) (enc : TypeId × Value → H) :
    ReturnsInHanded {} Try.checked os 6 .any (Rows.shapeKindsSpec.pre6 enc Try.prog Try.f6 Rows.shapeKindsRow.domain false) (Rows.shapeKindsSpec.post enc Try.prog Try.f6 false true false false) :=
  lift_law (C := Try.checked) own started (by kernel_rfl) Try.func6 laidOut (by kernel_rfl) rfl rfl Try.underlying4
    (fun ds h => by match ds, h with | [_, _], _ => rfl)
    (ChangeSpec.witness6 (enc := enc) (C := Try.checked) false ⟨#[], #[.slice none 0 0, .slice none 0 0], []⟩ 8 (by kernel_rfl) (by kernel_rfl) (by kernel_rfl) (by kernel_rfl))
    (fun W base args ds ps hval hA hlt => by
      have hA' : DataW.TrodAll enc Try.prog W 0 (fun _ => true) true Try.f6.params.toList args.toList ds ps := hA
      rw [Try.params6] at hA'
      have hval' : ∀ (j : Nat) t v, Try.f6.params[j]? = some t → args[j]? = some v → Value.okWide Try.prog W .any base t v := hval
      rw [Try.params6] at hval'
      obtain ⟨v0, vs0, d0, ds0, p0, q0, hargs, rfl, rfl, h0, r0⟩ := trodAll_cons hA'
      obtain ⟨v1, vs1, d1, ds1, p1, q1, rfl, rfl, rfl, h1, r1⟩ := trodAll_cons r0
      obtain ⟨rfl, rfl, rfl⟩ := trodAll_nil r1
      obtain rfl : args = #[v0, v1] := by cases args; simp_all
      obtain ⟨xs0, s0⟩ := open_bools' Try.underlying22 Try.underlying4 (by kernel_rfl) (hval' 0 22 v0 rfl rfl) h0
      obtain ⟨xs1, s1⟩ := open_bools' Try.underlying22 Try.underlying4 (by kernel_rfl) (hval' 1 22 v1 rfl rfl) h1
      exact (walk W _ xs0 s0 _ xs1 s1).mono fun e W' ⟨he, hp⟩ => ⟨he, hp.below⟩)

/-- The statement. -/
theorem proved : Rows.ShapeKindsSaid :=
  OpenClaim.holds_of_wide 6 Try.f6 rfl rfl rfl rfl rfl rfl rfl ⟨rfl, rfl, rfl, rfl, rfl⟩ rfl rfl rfl rfl rfl (by kernel_rfl) Try.func6 (by kernel_rfl)
    (of_decide_eq_true (by kernel_rfl)) (by unfold Func.isWrapper; first | (rw [if_pos (by decide +kernel)]; kernel_rfl) | (rw [if_neg (by decide +kernel)]; exact ⟨rfl, rfl⟩))
    (fun os started H enc _ => lifted os started H enc)
#print axioms proved

end Go.Proofs.Ytdkgghdhjdfebaa.shapeKinds
