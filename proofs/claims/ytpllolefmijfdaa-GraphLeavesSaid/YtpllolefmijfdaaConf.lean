/-
  Contracts of package conf: which configurations may be.
-/
import Derived.Test.YtpllolefmijfdaaMay
namespace Go.Proofs.Ytpllolefmijfdaa
open Go.RowKit

/-! ### What a configuration is -/
/-- A shape: an array or not, the value of its fields' slice, its fields. -/
structure Sh where
  a : Bool
  v : Value
  bs : List Bool

/-- The value v is a slice of shapes that reads as l. -/
def ShsR (w : World) (B : Nat) (v : Value) (l : List Sh) : Prop :=
  (∃ (A : Option Addr) (c : Nat), v = .slice A l.length c ∧ l.length ≤ c ∧ c ≤ 9223372036854775807 ∧
    (0 < l.length → ∃ b off, A = some ⟨b, off, none⟩ ∧ b < B ∧ ∀ j s, l[j]? = some s → w.cell? ⟨b, off + j * 2, none⟩ = some (.bool s.a) ∧ w.cell? ⟨b, off + j * 2 + 1, none⟩ = some s.v)) ∧
  ∀ s ∈ l, SlG w B s.v (bools s.bs)

theorem ShsR.pure {w w' : World} {v : Value} {l : List Sh} (h : ShsR w w.heap.size v l) (hp : Pure w w') : ShsR w' w'.heap.size v l := by
  obtain ⟨⟨A, c, e, h1, h2, h3⟩, h4⟩ := h
  refine ⟨⟨A, c, e, h1, h2, fun hl => ?_⟩, fun s hs => (h4 s hs).pure hp⟩
  obtain ⟨b, off, rfl, hb, hc⟩ := h3 hl
  refine ⟨b, off, rfl, Nat.lt_of_lt_of_le hb hp.size, fun j s hj => ?_⟩
  obtain ⟨c1, c2⟩ := hc j s hj
  exact ⟨hp.keep c1, hp.keep c2⟩

/-- The numbers of a configuration. -/
structure Cn where
  frags : Int
  spine : Int
  globals : Int
  threads : Int
  locals : Int
  cache : Int
  stack : Int
  low : Int

/-- A configuration as a value. -/
abbrev cnV (c : Cn) (v : Value) : Value := .agg #[.int .i64 c.frags, .int .i64 c.spine, .int .i64 c.globals, .int .i64 c.threads, .int .i64 c.locals, .int .i64 c.cache, .int .i64 c.stack, .int .i64 c.low, v]

def withinB (n a b : Int) : Bool := decide (a ≤ n) && decide (n ≤ b)
/-- The eight tests of conf.Check, in its order. -/
def tests (c : Cn) : List Bool := [withinB c.frags 4 1024, withinB c.spine 0 2048, withinB c.globals 0 8, withinB c.threads 1 16, withinB c.locals 1 8, withinB c.cache 0 8, withinB c.stack 1 256, withinB c.low 0 c.frags]
def mayAll (l : List Sh) : Bool := l.all fun s => mayB s.a s.bs.length
/-- What conf.Check tells: 0, 1 (out of range) or 4 (a shape that may not be). -/
def checkI (c : Cn) (l : List Sh) : Int :=
  if (tests c).all id = false then 1 else if c.frags < c.threads * c.cache then 1 else if (withinB l.length 1 8 && mayAll l) = false then 4 else 0

theorem within_any (n a b : Int) (w : World) : Calls Try.prog 36 #[.int .i64 n, .int .i64 a, .int .i64 b] w fun e w' => e = .returned (.bool (withinB n a b)) ∧ w = w' := by
  by_cases h : a ≤ n
  · go_enter Try.func36, Try.ntmps36
    go_wp2
    go_ret
    exact ⟨ret_b (by simp [withinB, h]), rfl⟩
  · go_enter Try.func36, Try.ntmps36
    go_wp2
    go_ret
    exact ⟨ret_b (by rw [withinB, decide_eq_false (show ¬ a ≤ n by omega)]; rfl), rfl⟩

/-- The closure that conf.Check hands to slices.ContainsFunc. -/
theorem closure_any (a : Bool) (A : Option Addr) (n c : Nat) (w : World) (hn : n ≤ 9223372036854775807) :
    Calls Try.prog 38 #[shV a A n c] w fun e w' => e = .returned (.bool (!mayB a n)) ∧ Pure w w' := by
  go_enter Try.func38, Try.ntmps38
  go_wp2_with fail
  refine (may_any a A n c _ hn).mono ?_
  rintro e w1 ⟨rfl, hp1⟩
  have P1 := Lib.hid (Pure.then ((Only.refl (fun _ => False) w).alloc (.cells #[.bool a, .slice A n c] 46)) hp1)
  clear hp1
  go_wp2
  go_ret
  exact ⟨rfl, P1.out⟩

theorem index_any (v : Value) (l : List Sh) (w : World) (hl : ShsR w w.heap.size v l) :
    Calls Try.prog 57 #[v, .func (.func 38) #[] #[]] w fun e w' => (∃ r : Int, e = .returned (.int .i64 r) ∧ decide (0 ≤ r) = !mayAll l) ∧ Pure w w' := by
  have HL := Lib.hid hl
  obtain ⟨⟨A, cc, rfl, h1, h2, h3⟩, h4⟩ := hl
  have H3 := Lib.hid h3
  have H4 := Lib.hid h4
  clear h3 h4
  go_enter Try.func57, Try.ntmps57
  go_wp2_with fail
  go_loopw [8] (fun i wr => ∃ k : Nat, k ≤ l.length ∧ i = .int .i64 k ∧ (∀ j, j < k → ∀ s, l[j]? = some s → mayB s.a s.bs.length = true) ∧ Pure w wr) (fun i _ => l.length - (intOf i).toNat)
  case atStart => exact ⟨0, Nat.zero_le _, rfl, (by omega), Only.refl _ _⟩
  case round =>
    obtain ⟨k, hk, rfl, hall, hp⟩ := hrel
    have HALL := Lib.hid hall
    have HP := Lib.hid hp
    clear hall hp
    by_cases hlt : k < l.length
    · obtain ⟨b, off, hA, hb, hc⟩ := H3.out (by omega)
      subst hA
      obtain ⟨s, hs⟩ : ∃ s, l[k]? = some s := ⟨l[k], List.getElem?_eq_getElem hlt⟩
      obtain ⟨c1, c2⟩ := hc k s hs
      obtain ⟨B, d, hv, hd1, hd2, _⟩ := H4.out s (List.mem_of_getElem? hs)
      rw [hv] at c2
      rw [bools_length] at c2 hd1
      have c1' := HP.out.keep c1
      have c2' := HP.out.keep c2
      have HS := Lib.hid hs
      clear hc c1 c2 hv hs
      cases hm : mayB s.a s.bs.length with
      | false =>
        have HM := Lib.hid hm
        go_wp2_with fail
        refine (closure_any s.a B s.bs.length d _ (by omega)).mono ?_
        rw [hm]
        rintro e w1 ⟨rfl, hp1⟩
        have P1 := Lib.hid (HP.out.then hp1)
        clear hp1
        go_wp2
        go_ret
        refine ⟨⟨k, rfl, ?_⟩, P1.out⟩
        have : mayAll l = false := by
          simp only [mayAll, List.all_eq_false]
          exact ⟨s, List.mem_of_getElem? HS.out, by rw [HM.out]; simp⟩
        rw [this]
        simp
      | true =>
        have HM := Lib.hid hm
        go_wp2_with fail
        refine (closure_any s.a B s.bs.length d _ (by omega)).mono ?_
        rw [hm]
        rintro e w1 ⟨rfl, hp1⟩
        have P1 := Lib.hid (HP.out.then hp1)
        clear hp1
        go_wp2
        go_roundw
        case rel =>
          refine ⟨k + 1, by omega, by first | rfl | simp, ?_, P1.out⟩
          intro j hj s' hs'
          by_cases e : j < k
          · exact HALL.out j e s' hs'
          · obtain rfl : j = k := by omega
            rw [HS.out] at hs'
            cases hs'
            exact HM.out
        case measure => simp [intOf]; omega
    · obtain rfl : k = l.length := by omega
      go_wp2
      go_ret
      refine ⟨⟨-1, rfl, ?_⟩, HP.out⟩
      have : mayAll l = true := by
        simp only [mayAll, List.all_eq_true]
        intro s hs
        obtain ⟨j, hj, e⟩ := List.mem_iff_getElem.1 hs
        exact HALL.out j hj s (by rw [List.getElem?_eq_getElem hj, e])
      rw [this]
      rfl

theorem contains_any (v : Value) (l : List Sh) (w : World) (hl : ShsR w w.heap.size v l) :
    Calls Try.prog 37 #[v, .func (.func 38) #[] #[]] w fun e w' => e = .returned (.bool (!mayAll l)) ∧ Pure w w' := by
  have HL := Lib.hid hl
  clear hl
  go_enter Try.func37, Try.ntmps37
  go_wp2_with fail
  refine (index_any v l _ HL.out).mono ?_
  rintro e w1 ⟨⟨r, rfl, hr⟩, hp1⟩
  have P1 := Lib.hid hp1
  have HR := Lib.hid hr
  clear hp1 hr
  go_wp2
  go_ret
  refine ⟨ret_b ?_, P1.out⟩
  rw [← HR.out]

end Go.Proofs.Ytpllolefmijfdaa
