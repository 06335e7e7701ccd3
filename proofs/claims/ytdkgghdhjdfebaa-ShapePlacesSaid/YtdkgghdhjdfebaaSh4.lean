/-
  ShapePlaces: each field has a place of its own, within its fragments, never a link or the head's word; as many words are left as fragments say. For every input.
-/
import Derived.Test.YtdkgghdhjdfebaaSh2
namespace Go.Proofs.Ytdkgghdhjdfebaa.shapePlaces
open Go.RowKit Go.ChangeShapes Go.WideShapes Go.ChangeAt

/-! ### Plain -/
def pos (k : Nat) : Nat := if k < 6 then 2 + k else 8 * (1 + (k - 6) / 7) + (1 + (k - 6) % 7)
theorem pos_inj (a b : Nat) (h : pos a = pos b) : a = b := by
  unfold pos at h
  split at h <;> split at h <;> omega
theorem pos_eq (k : Nat) : 8 * placeF k + placeW k = (pos k : Int) := by
  unfold pos placeF placeW
  by_cases h : k < 6
  · have h' : (k : Int) < 6 := by omega
    simp [h, h']
  · have h' : ¬ (k : Int) < 6 := by omega
    simp only [h, h', if_false]
    omega
theorem pos_lt (k : Nat) (h : k < 40) : pos k < 48 := by unfold pos; split <;> omega
theorem place_in (n k : Nat) (hn : n ≤ 40) (hk : k < n) : 0 ≤ placeF k ∧ placeF k < sizeI false n 0 ∧ 1 ≤ placeW k ∧ placeW k ≤ 7 ∧ (placeF k = 0 → 2 ≤ placeW k) ∧ placeF k ≤ 5 := by
  have h1 : mayB false n = true := by simp [mayB, hn]
  simp only [sizeI, h1, placeF, placeW]
  by_cases a : n ≤ 6 <;> by_cases d : (k : Int) < 6 <;> simp [a, d] <;> omega
theorem size_in (n : Nat) (hn : n ≤ 40) : 1 ≤ sizeI false n 0 ∧ sizeI false n 0 ≤ 6 ∧ (n : Int) ≤ 6 + 7 * (sizeI false n 0 - 1) ∧ (1 < sizeI false n 0 → 6 + 7 * (sizeI false n 0 - 2) < n) := by
  have h1 : mayB false n = true := by simp [mayB, hn]
  simp only [sizeI, h1]
  by_cases a : n ≤ 6 <;> simp [a] <;> omega

/-- A shape in block X. -/
def One (w : World) (X : Nat) (a : Bool) (A : Option Addr) (n c : Nat) (w' : World) : Prop :=
  w'.cell? ⟨X, 0, none⟩ = some (.bool a) ∧ w'.cell? ⟨X, 1, none⟩ = some (.slice A n c) ∧ Pure w w'
theorem One.keep {w : World} {X : Nat} {a : Bool} {A : Option Addr} {n c : Nat} {u v : World} (h : One w X a A n c u) (k : Pure u v) : One w X a A n c v :=
  ⟨k.keep h.1, k.keep h.2.1, h.2.2.then k⟩

def metB (k q : Nat) : Bool := (List.range k).any fun i => pos i == q
theorem metB_no (k : Nat) : metB k (pos k) = false := by
  simp only [metB, List.any_eq_false, List.mem_range, beq_iff_eq]
  intro i hi h
  have := pos_inj i k h
  omega
theorem metB_succ (k q : Nat) : metB (k + 1) q = (metB k q || pos k == q) := by simp [metB, List.range_succ]
/-- The block that notes which places have been met. -/
def Met (w' : World) (M k : Nat) : Prop := ∃ cs : Array Value, w'.heap[M]? = some (.cells cs 28 (0, 0)) ∧ ∀ q, q < 48 → cs[q]? = some (.bool (metB k q))
theorem Met.new (w : World) : Met (w.alloc (.cells (List.replicate 48 (Value.bool false)).toArray 28)) w.heap.size 0 :=
  ⟨_, heap_alloc_new w _, fun q hq => by
    rw [List.getElem?_toArray, List.getElem?_replicate, if_pos hq]
    rfl⟩
theorem Met.pure {w w' : World} {M k : Nat} (h : Met w M k) (hp : Pure w w') : Met w' M k := by
  obtain ⟨cs, h1, h2⟩ := h
  exact ⟨cs, (hp.block M (Array.getElem?_eq_some_iff.1 h1).1 (fun f => f)).trans h1, h2⟩
theorem Met.cell {w : World} {M k q : Nat} (h : Met w M k) (hq : q < 48) : w.cell? ⟨M, q, none⟩ = some (.bool (metB k q)) ∧ w.frozen? ⟨M, q, none⟩ = false := by
  obtain ⟨cs, h1, h2⟩ := h
  exact ⟨by rw [cell_of_row w M q cs _ _ h1]; exact h2 q hq, frozen_of_row w M q cs _ h1⟩
theorem Met.set {w : World} {M k : Nat} (h : Met w M k) : Met (w.setCell ⟨M, pos k, none⟩ (.bool true)) M (k + 1) := by
  obtain ⟨cs, h1, h2⟩ := h
  refine ⟨cs.setIfInBounds (pos k) (.bool true), by simp [World.setCell, Array.getElem?_modify, h1], fun q hq => ?_⟩
  rw [Array.getElem?_setIfInBounds, metB_succ]
  by_cases e : pos k = q
  · have hs : q < cs.size := (Array.getElem?_eq_some_iff.1 (h2 q hq)).1
    simp [e, hs]
  · simp [e, h2 q hq]

theorem few_any (a : Bool) (A : Option Addr) (n c : Nat) (w : World) :
    Calls Try.prog 8 #[shV a A n c] w fun e w' => e = .returned (.bool (decide ((n : Int) ≤ 1000))) ∧ Pure w w' := by
  go_enter Try.func8, Try.ntmps8
  go_wp2
  go_ret
  exact ⟨rfl, (Only.refl _ _).alloc _⟩

theorem out (a : Bool) (A : Option Addr) (n c : Nat) (w : World) (hn : n ≤ 9223372036854775807) (h : 1000 < n ∨ mayB a n = false ∨ a = true) :
    Calls Try.prog 3 #[shV a A n c] w fun e w' => e = .returned (.bool true) ∧ Pure w w' := by
  have h' : ((decide ((n : Int) ≤ 1000)) = false) ∨ ((decide ((n : Int) ≤ 1000)) = true ∧ mayB a n = false) ∨ ((decide ((n : Int) ≤ 1000)) = true ∧ mayB a n = true ∧ a = true) := by
    cases hm : mayB a n <;> cases a <;> simp_all <;> omega
  clear h
  rcases h' with h1 | ⟨h1, h2⟩ | ⟨h1, h2, h3⟩
  · go_enter Try.func3, Try.ntmps3
    go_wp2_with fail
    refine (first_any _).mono ?_
    rintro e w1 ⟨rfl, hp1⟩
    have o1 : One w w.heap.size a A n c w1 := ⟨hp1.keep (by simp), hp1.keep (by simp), Pure.then ((Only.refl _ _).alloc _) hp1⟩
    obtain ⟨c0, c1, P1⟩ := o1
    have P1 := Lib.hid P1
    clear hp1
    go_wp2_with fail
    refine (few_any a A n c _).mono ?_
    rintro e w2 ⟨rfl, hp2⟩
    rw [h1]
    have P2 := Lib.hid hp2
    clear hp2
    go_wp2_with fail
    refine (first_any _).mono ?_
    rintro e w8 ⟨rfl, hp8⟩
    have P8 := Lib.hid hp8
    clear hp8
    go_wp2
    go_ret
    exact ⟨rfl, (P1.out.then P2.out).then P8.out⟩
  · go_enter Try.func3, Try.ntmps3
    go_wp2_with fail
    refine (first_any _).mono ?_
    rintro e w1 ⟨rfl, hp1⟩
    have o1 : One w w.heap.size a A n c w1 := ⟨hp1.keep (by simp), hp1.keep (by simp), Pure.then ((Only.refl _ _).alloc _) hp1⟩
    obtain ⟨c0, c1, P1⟩ := o1
    have P1 := Lib.hid P1
    clear hp1
    go_wp2_with fail
    refine (few_any a A n c _).mono ?_
    rintro e w2 ⟨rfl, hp2⟩
    rw [h1]
    have c0' := hp2.keep c0
    have c1' := hp2.keep c1
    have P2 := Lib.hid hp2
    clear hp2
    go_wp2_with fail
    refine (may_any a A n c _ hn).mono ?_
    rintro e w3 ⟨rfl, hp3⟩
    rw [h2]
    have P3 := Lib.hid hp3
    clear hp3
    go_wp2_with fail
    refine (first_any _).mono ?_
    rintro e w8 ⟨rfl, hp8⟩
    have P8 := Lib.hid hp8
    clear hp8
    go_wp2
    go_ret
    exact ⟨rfl, ((P1.out.then P2.out).then P3.out).then P8.out⟩
  · subst h3
    go_enter Try.func3, Try.ntmps3
    go_wp2_with fail
    refine (first_any _).mono ?_
    rintro e w1 ⟨rfl, hp1⟩
    have o1 : One w w.heap.size true A n c w1 := ⟨hp1.keep (by simp), hp1.keep (by simp), Pure.then ((Only.refl _ _).alloc _) hp1⟩
    obtain ⟨c0, c1, P1⟩ := o1
    have P1 := Lib.hid P1
    clear hp1
    go_wp2_with fail
    refine (few_any true A n c _).mono ?_
    rintro e w2 ⟨rfl, hp2⟩
    rw [h1]
    have c0' := hp2.keep c0
    have c1' := hp2.keep c1
    have P2 := Lib.hid hp2
    clear hp2
    go_wp2_with fail
    refine (may_any true A n c _ hn).mono ?_
    rintro e w3 ⟨rfl, hp3⟩
    rw [h2]
    have c0'' := hp3.keep c0'
    have P3 := Lib.hid hp3
    clear hp3
    go_wp2_with fail
    refine (first_any _).mono ?_
    rintro e w8 ⟨rfl, hp8⟩
    have P8 := Lib.hid hp8
    clear hp8
    go_wp2
    go_ret
    exact ⟨rfl, ((P1.out.then P2.out).then P3.out).then P8.out⟩

set_option maxRecDepth 100000 in
set_option maxHeartbeats 1000000 in
theorem main (A : Option Addr) (n c : Nat) (w : World) (hn : n ≤ 40) :
    Calls Try.prog 3 #[shV false A n c] w fun e w' => e = .returned (.bool true) ∧ Pure w w' := by
  have hm : mayB false n = true := by simp [mayB, hn]
  have hf : decide ((n : Int) ≤ 1000) = true := by simp; omega
  obtain ⟨s1, s2, s3, s4⟩ := size_in n hn
  have hin : ∀ k : Nat, k < n → 0 ≤ placeF k ∧ placeF k < sizeI false n 0 ∧ 1 ≤ placeW k ∧ placeW k ≤ 7 ∧ (placeF k = 0 → 2 ≤ placeW k) ∧ placeF k ≤ 5 := fun k => place_in n k hn
  have HIN := Lib.hid hin
  clear hin
  go_enter Try.func3, Try.ntmps3
  go_wp2_with fail
  refine (first_any _).mono ?_
  rintro e w1 ⟨rfl, hp1⟩
  have o1 : One w w.heap.size false A n c w1 := ⟨hp1.keep (by simp), hp1.keep (by simp), Pure.then ((Only.refl _ _).alloc _) hp1⟩
  clear hp1
  generalize w.heap.size = X at *
  have O1 := Lib.hid o1
  obtain ⟨c0, c1, _⟩ := o1
  go_wp2_with fail
  refine (few_any false A n c _).mono ?_
  rintro e w2 ⟨rfl, hp2⟩
  rw [hf]
  have O2 := Lib.hid (O1.out.keep hp2)
  have c0' := O2.out.1
  have c1' := O2.out.2.1
  clear hp2 c0 c1 O1 hf
  go_wp2_with fail
  refine (may_any false A n c _ (by omega)).mono ?_
  rintro e w3 ⟨rfl, hp3⟩
  rw [hm]
  have O3 := Lib.hid (O2.out.keep hp3)
  have c0 := O3.out.1
  have c1 := O3.out.2.1
  clear hp3 c0' c1' O2 hm
  go_wp2_with fail
  refine (size_any false A n c 0 _ (by omega)).mono ?_
  rintro e w4 ⟨rfl, hp4⟩
  have O4 := Lib.hid (O3.out.keep hp4)
  have c0' := O4.out.1
  have c1' := O4.out.2.1
  clear hp4 c0 c1 O3
  generalize sizeI false n 0 = sz at *
  by_cases hs1 : 1 < sz
  all_goals
    first | (have s4' := s4 hs1; clear s4) | clear s4
    go_wp2_with fail
    have hX : X < w4.heap.size := World.block_lt_of_cell? w4 ⟨X, 0, none⟩ c0'
    have hw : w.heap.size ≤ w4.heap.size := O4.out.2.2.size
    have hM := Met.new w4
    have hO := O4.out.keep ((Only.refl (fun _ => False) w4).alloc (.cells (List.replicate 48 (Value.bool false)).toArray 28))
    have hrep : (List.replicate 48 (Value.bool false)).toArray = #[.bool false, .bool false, .bool false, .bool false, .bool false, .bool false, .bool false, .bool false, .bool false, .bool false, .bool false, .bool false, .bool false, .bool false, .bool false, .bool false, .bool false, .bool false, .bool false, .bool false, .bool false, .bool false, .bool false, .bool false, .bool false, .bool false, .bool false, .bool false, .bool false, .bool false, .bool false, .bool false, .bool false, .bool false, .bool false, .bool false, .bool false, .bool false, .bool false, .bool false, .bool false, .bool false, .bool false, .bool false, .bool false, .bool false, .bool false, .bool false] := rfl
    rw [hrep] at hM hO
    clear hrep
    generalize w4.alloc (.cells #[.bool false, .bool false, .bool false, .bool false, .bool false, .bool false, .bool false, .bool false, .bool false, .bool false, .bool false, .bool false, .bool false, .bool false, .bool false, .bool false, .bool false, .bool false, .bool false, .bool false, .bool false, .bool false, .bool false, .bool false, .bool false, .bool false, .bool false, .bool false, .bool false, .bool false, .bool false, .bool false, .bool false, .bool false, .bool false, .bool false, .bool false, .bool false, .bool false, .bool false, .bool false, .bool false, .bool false, .bool false, .bool false, .bool false, .bool false, .bool false] 28) = W at *
    generalize w4.heap.size = M at *
    have HM := Lib.hid hM
    have HO := Lib.hid hO
    clear hM hO c0' c1' O4
    go_loopw [5] (fun i wr => ∃ k : Nat, k ≤ n ∧ i = .int .i64 k ∧ One w X false A n c wr ∧ Met wr M k) (fun i _ => n - (intOf i).toNat)
    case atStart => exact ⟨0, by omega, by simp, HO.out, HM.out⟩
    case round =>
      obtain ⟨k, hk, rfl, hO, hM⟩ := hrel
      have c0 := hO.1
      have c1 := hO.2.1
      have O1 := Lib.hid hO
      have M1 := Lib.hid hM
      clear hO hM
      by_cases hlt : k < n
      · have hp : placeOk false n k = true := by simp [placeOk, mayB]; omega
        have HP := Lib.hid hp
        obtain ⟨f0, f1, g0, g1, fg, f2⟩ := HIN.out k hlt
        have hpos := pos_eq k
        have hp48 : pos k < 48 := pos_lt k (by omega)
        have hno := metB_no k
        clear hp
        go_wp2_with fail
        refine (place_yes false A n c k _ (by omega) HP.out).mono ?_
        rintro e w5 ⟨rfl, hp5⟩
        have O5 := Lib.hid (O1.out.keep hp5)
        have M5 := Lib.hid (M1.out.pure hp5)
        obtain ⟨cq, fq⟩ := M5.out.cell hp48
        rw [hno] at cq
        have M6 := Lib.hid M5.out.set
        clear hp5 hno c0 c1
        generalize placeF k = f at *
        generalize placeW k = g at *
        have FG := Lib.hid fg
        clear fg
        generalize pos k = q at *
        by_cases hf0 : f = 0
        · have hg2 := FG.out hf0
          subst hf0
          have hpos' : g = (q : Int) := by omega
          have hq2 : 2 ≤ (q : Int) := by omega
          subst hpos'
          go_wp2_with fail
          go_roundw
          case rel => exact ⟨k + 1, by omega, by go_num, ⟨(World.cell?_setCell_other _ _ _ _ (by simp <;> omega)).trans O5.out.1, (World.cell?_setCell_other _ _ _ _ (by simp <;> omega)).trans O5.out.2.1, O5.out.2.2.setCell (fun h => by have h' : M < w.heap.size := h; omega) _⟩, M6.out⟩
          case measure => simp [intOf]; omega
        · have hf0' : (f == 0) = false := by simpa using hf0
          by_cases hsz : f < 1
          · exfalso; omega
          · have hs1' : 1 < sz := by omega
            go_wp2_with fail
            all_goals
              go_roundw
              case rel => exact ⟨k + 1, by omega, by go_num, ⟨(World.cell?_setCell_other _ _ _ _ (by simp <;> omega)).trans O5.out.1, (World.cell?_setCell_other _ _ _ _ (by simp <;> omega)).trans O5.out.2.1, O5.out.2.2.setCell (fun h => by have h' : M < w.heap.size := h; omega) _⟩, M6.out⟩
              case measure => simp [intOf]; omega
      · obtain rfl : k = n := by omega
        have hp : placeOk false k k = false := by simp [placeOk]
        have HP := Lib.hid hp
        clear hp
        go_wp2_with fail
        refine (place_no false A k c k _ (by omega) HP.out).mono ?_
        rintro e w5 ⟨rfl, hp5⟩
        have O5 := Lib.hid (O1.out.keep hp5)
        clear hp5 c0 c1
        go_wp2_with fail
        refine (first_any _).mono ?_
        rintro e w8 ⟨rfl, hp8⟩
        have P8 := Lib.hid hp8
        clear hp8
        go_wp2
        go_ret
        exact ⟨rfl, O5.out.2.2.then P8.out⟩

theorem open_0 {H : Type} {enc : TypeId × Value → H} {W : World} {b0 base : Nat} {v : Value} {d : DataW H} {ps : List MemPlace} {r : Reach}
    (hval : Value.okWide Try.prog W r b0 24 v) (h : DataW.Trod enc Try.prog W base (fun _ => true) true 24 v d ps) : ∃ x : Bool × Option Addr × Nat × Nat, v = shV x.1 x.2.1 x.2.2.1 x.2.2.2 ∧ x.2.2.1 ≤ x.2.2.2 ∧ x.2.2.2 ≤ 9223372036854775807 := by
  obtain ⟨v0, v1, y0, y1, n, rfl, _, _, h0, h1⟩ := Go.Joins.open_agg2 Try.underlying24 (by kernel_rfl) (by kernel_rfl) hval h
  obtain ⟨b, hb, _⟩ := DataW.trod_bool Try.underlying4 h0
  injection hb with hb
  subst hb
  obtain ⟨bs, A, c, e, k1, k2, _⟩ := open_bools Try.underlying22 Try.underlying4 (by kernel_rfl) h1
  subst e
  exact ⟨(b, A, _, c), rfl, k1, k2⟩

theorem walk (w : World) (v : Value) (x : Bool × Option Addr × Nat × Nat) (h : v = shV x.1 x.2.1 x.2.2.1 x.2.2.2 ∧ x.2.2.1 ≤ x.2.2.2 ∧ x.2.2.2 ≤ 9223372036854775807) :
    Calls Try.prog 3 #[v] w fun e w' => e = .returned (.bool true) ∧ Pure w w' := by
  obtain ⟨a, A, n, c⟩ := x
  obtain ⟨rfl, h1, h2⟩ := h
  simp only at h1 h2 ⊢
  by_cases h : 1000 < n ∨ mayB a n = false ∨ a = true
  · exact out a A n c w (by omega) h
  · have ha : a = false := by cases a <;> simp_all
    subst ha
    have hm : mayB false n = true := by cases hm : mayB false n <;> simp_all
    exact main A n c w (mayB_le hm)

set_option maxRecDepth 100000 in
theorem lifted (os : Os) (started : os.Started) (H : Type) (enc : TypeId × Value → H) :
    ReturnsInHanded {} Try.checked os 3 .any (Rows.shapePlacesSpec.pre6 enc Try.prog Try.f3 Rows.shapePlacesRow.domain false) (Rows.shapePlacesSpec.post enc Try.prog Try.f3 false true false false) :=
  lift_law (C := Try.checked) own started (by kernel_rfl) Try.func3 laidOut (by kernel_rfl) rfl rfl Try.underlying4
    (fun ds h => by match ds, h with | [_], _ => rfl)
    (ChangeSpec.witness6 (enc := enc) (C := Try.checked) false ⟨#[], #[.agg #[.bool false, .slice none 0 0]], []⟩ 8 (by kernel_rfl) (by kernel_rfl) (by kernel_rfl) (by kernel_rfl))
    (fun W base args ds ps hval hA hlt => by
      have hA' : DataW.TrodAll enc Try.prog W 0 (fun _ => true) true Try.f3.params.toList args.toList ds ps := hA
      rw [Try.params3] at hA'
      have hval' : ∀ (j : Nat) t v, Try.f3.params[j]? = some t → args[j]? = some v → Value.okWide Try.prog W .any base t v := hval
      rw [Try.params3] at hval'
      obtain ⟨v0, vs0, d0, ds0, p0, q0, hargs, rfl, rfl, h0, r0⟩ := trodAll_cons hA'
      obtain ⟨rfl, rfl, rfl⟩ := trodAll_nil r0
      obtain rfl : args = #[v0] := by cases args; simp_all
      obtain ⟨x0, s0⟩ := open_0 (hval' 0 24 v0 rfl rfl) h0
      exact (walk W _ x0 s0).mono fun e W' ⟨he, hp⟩ => ⟨he, hp.below⟩)

/-- The statement. -/
theorem proved : Rows.ShapePlacesSaid :=
  OpenClaim.holds_of_wide 3 Try.f3 rfl rfl rfl rfl rfl rfl rfl ⟨rfl, rfl, rfl, rfl, rfl⟩ rfl rfl rfl rfl rfl (by kernel_rfl) Try.func3 (by kernel_rfl)
    (of_decide_eq_true (by kernel_rfl)) (by unfold Func.isWrapper; first | (rw [if_pos (by decide +kernel)]; kernel_rfl) | (rw [if_neg (by decide +kernel)]; exact ⟨rfl, rfl⟩))
    (fun os started H enc _ => lifted os started H enc)
#print axioms proved

end Go.Proofs.Ytdkgghdhjdfebaa.shapePlaces
