/-
  ConfEdges: a configuration that may be may be no more, if one number is a step out of its bounds; its copy may; what is turned in the copy is not in it. For every input.
-/
import Derived.Test.YthinbbhjfojhaaaCf3
import Derived.Deep.DeepCutAuto
import Derived.Deep.CutBlock
namespace Go.Proofs.Ythinbbhjfojhaaa.confEdges
open Go.RowKit Go.ChangeShapes Go.WideShapes Go.ChangeAt
open Go.Proofs.Ythinbbhjfojhaaa.confSmall (Row Row.new Row.keep Row.cells Row.keepSet first_any and7)
open Go.Proofs.Ythinbbhjfojhaaa.confStocks (check_cases check_zero)
open Go.Proofs.Ythinbbhjfojhaaa.confShapes (row_setShapes row_only)

/-- The copy's first shape is turned into an array of two fields, and one more is laid behind: it may not be. -/
theorem check_turned {c : Cn} {l : List Sh} (h : checkI c l = 0) (v : Value) (m : List Sh) : checkI c (⟨true, v, [false, false]⟩ :: m) = 4 := by
  obtain ⟨a, b, _⟩ := check_zero h
  rw [checkI, if_neg (by rw [a]; simp), if_neg b, if_pos]
  simp [mayAll, mayB]

/-- The configuration in block X; another one, out of bounds, in block D. -/
def Edge (w : World) (X D : Nat) (c : Cn) (v vd : Value) (l : List Sh) (wx : World) : Prop := Row w X c v wx ∧ (∃ c' : Cn, Row w D c' vd wx ∧ ∀ m : List Sh, checkI c' m = 1) ∧ ∀ w', Pure wx w' → ShsR w' w'.heap.size vd l

theorem out_one {c : Cn} {l : List Sh} {b : Bool} (hm : b ∈ tests c) (h : b = false) : checkI c l = 1 := by
  subst h
  rw [checkI, if_pos]
  simp only [List.all_eq_false]
  exact ⟨false, hm, by simp⟩

/-- The copy in block E has n shapes; the configuration is in block X. -/
structure Fin (w : World) (base X E : Nat) (c : Cn) (vx : Value) (n : Nat) (v : Value) (mm : List Sh) (wr : World) : Prop where
  e : Row w E c v wr
  x : Row w X c vx wr
  own : wr.ownsRow base 32 2 v n (shCells mm)
  sl : ∀ s ∈ mm, SlG wr wr.heap.size s.v (bools s.bs)
  apart : ∀ s ∈ mm, ∀ q, s.v.ownBlock = some q → v.ownBlock ≠ some q ∧ q ≠ E ∧ q < wr.heap.size
  ne : ∀ q, v.ownBlock = some q → q ≠ E ∧ q ≠ X ∧ w.heap.size ≤ q
  ex : X ≠ E
theorem Fin.pure {w a b : World} {base X E n : Nat} {c : Cn} {vx v : Value} {mm : List Sh} (h : Fin w base X E c vx n v mm a) (p : Pure a b) : Fin w base X E c vx n v mm b :=
  ⟨h.e.keep p, h.x.keep p, p.own h.own (fun _ _ f => f), fun s hs => (h.sl s hs).pure p, fun s hs q hq => ⟨(h.apart s hs q hq).1, (h.apart s hs q hq).2.1, Nat.lt_of_lt_of_le (h.apart s hs q hq).2.2 p.size⟩, h.ne, h.ex⟩
theorem Fin.step {w a1 a2 : World} {base X E n : Nat} {c : Cn} {vx v v2 : Value} {mm : List Sh} (h1 : Fin w base X E c vx n v mm a1)
    (ho : a2.ownsRow base 32 2 v2 (n + 1) (shCells mm ++ [.bool false, .slice none 0 0])) (hg : a1.grownBy a2 v.ownBlock) (hat : v2.ownBlock = v.ownBlock ∨ v2.ownBlock = some a1.heap.size) :
    Row w E c v a2 ∧ Fin w base X E c vx (n + 1) v2 (mm ++ [⟨false, .slice none 0 0, []⟩]) (a2.setCell ⟨E, 8, none⟩ v2) := by
  have hO : Only (fun q => v.ownBlock = some q) a1 a2 := (Only.refl _ a1).grown hg (fun _ _ e => e)
  have hE : E < a1.heap.size := (Array.getElem?_eq_some_iff.1 h1.e.2.1).1
  have hX : X < a1.heap.size := (Array.getElem?_eq_some_iff.1 h1.x.2.1).1
  have hwz := h1.e.2.2.size
  have hw : ∀ q, q < w.heap.size → ¬ v.ownBlock = some q := fun q hq e => by have := (h1.ne q e).2.2; omega
  have e2 : Row w E c v a2 := row_only h1.e hO (fun e => (h1.ne E e).1 rfl) hw
  have x2 : Row w X c vx a2 := row_only h1.x hO (fun e => (h1.ne X e).2.1 rfl) hw
  have ne2 : ∀ q, v2.ownBlock = some q → q ≠ E ∧ q ≠ X ∧ w.heap.size ≤ q := by
    intro q hq
    rcases hat with h' | h'
    · exact h1.ne q (h'.symm.trans hq)
    · rw [h'] at hq; injection hq with hq; omega
  have hS : Only (fun q => q = E) a2 (a2.setCell ⟨E, 8, none⟩ v2) := (Only.refl (fun q => q = E) a2).setCell (p := ⟨E, 8, none⟩) (fun _ => rfl) _
  have hwE := h1.e.1
  refine ⟨e2, row_setShapes e2, row_only x2 hS h1.ex (fun q hq e => by subst e; omega), ?_, ?_, ?_, ne2, h1.ex⟩
  · rw [shCells_append]
    exact hS.own ho (fun q hq e => (ne2 q hq).1 e)
  · intro s hs
    rcases List.mem_append.1 hs with hs | hs
    · exact ((h1.sl s hs).only hO (fun q hq => (h1.apart s hs q hq).1)).only hS (fun q hq => (h1.apart s hs q hq).2.1)
    · simp at hs; subst hs; exact SlG.nil _ _
  · intro s hs q hq
    rcases List.mem_append.1 hs with hs | hs
    · have ha := h1.apart s hs q hq
      refine ⟨fun e => ?_, ha.2.1, by simpa [World.setCell] using Nat.lt_of_lt_of_le ha.2.2 hO.size⟩
      rcases hat with h' | h'
      · exact ha.1 (h'.symm.trans e)
      · rw [h'] at e; injection e with e; omega
    · simp at hs; subst hs; simp [Value.ownBlock] at hq

set_option maxRecDepth 100000 in
set_option maxHeartbeats 8000000 in
theorem main (c : Cn) (v : Value) (l : List Sh) (which : Int) (w : World) (hl : ShsR w w.heap.size v l) :
    Calls Try.prog 5 #[cnV c v, .int .i64 which] w fun e w' => e = .returned (.bool true) ∧ Pure w w' := by
  obtain ⟨i0, hi0, hz0, hz1, hz2⟩ := info_parts shape_info
  have HL := Lib.hid (fun (w' : World) (hp : Pure w w') => hl.pure hp)
  obtain ⟨A, cc, rfl⟩ : ∃ A cc, v = .slice A l.length cc := by
    obtain ⟨⟨A, cc, rfl, _⟩, _⟩ := hl
    exact ⟨A, cc, rfl⟩
  clear hl
  go_enter Try.func5, Try.ntmps5
  go_wp2_with fail
  have hr := Row.new w c (.slice A l.length cc)
  generalize w.alloc _ = W at hr ⊢
  generalize hXe : w.heap.size = X at hr ⊢
  have HXE := Lib.hid hXe
  have R := Lib.hid hr
  clear hr hXe
  refine (first_any _).mono ?_
  rintro e w1 ⟨rfl, hp1⟩
  have R1 := Lib.hid (R.out.keep hp1)
  clear hp1
  obtain ⟨c0, c1, c2, c3, c4, c5, c6, c7, c8, _⟩ := R1.out.cells
  go_wp2_with fail
  refine (few_tells c _ l _ (HL.out _ R1.out.2.2)).mono ?_
  rintro e w2 ⟨⟨b, rfl, hfew⟩, hp2⟩
  have FEW := Lib.hid hfew
  have R2 := Lib.hid (R1.out.keep hp2)
  clear hp2 hfew c0 c1 c2 c3 c4 c5 c6 c7 c8
  obtain ⟨c0, c1, c2, c3, c4, c5, c6, c7, c8, _⟩ := R2.out.cells
  cases b with
  | false =>
    go_wp2_with fail
    refine (first_any _).mono ?_
    rintro e w8 ⟨rfl, hp8⟩
    have P8 := Lib.hid (R2.out.2.2.then hp8)
    clear hp8
    go_wp2
    go_ret
    exact ⟨rfl, P8.out⟩
  | true =>
    obtain ⟨hn, hbs⟩ := FEW.out rfl
    have HBS := Lib.hid (fun s hs => Nat.le_trans (hbs s hs) (by omega : 1000 ≤ 1000000))
    clear hbs
    go_wp2_with fail
    refine (check_any c _ l _ (HL.out _ R2.out.2.2)).mono ?_
    rcases check_cases c l with hk | hk | hk
    case inr.inl | inr.inr =>
      rw [hk]
      rintro e w3 ⟨rfl, hp3⟩
      have R3 := Lib.hid (R2.out.keep hp3)
      clear hp3
      go_wp2_with fail
      refine (first_any _).mono ?_
      rintro e w8 ⟨rfl, hp8⟩
      have P8 := Lib.hid (R3.out.2.2.then hp8)
      clear hp8
      go_wp2
      go_ret
      exact ⟨rfl, P8.out⟩
    have HK := Lib.hid hk
    rw [hk]
    rintro e w3 ⟨rfl, hp3⟩
    have R3 := Lib.hid (R2.out.keep hp3)
    clear hp3 hk c0 c1 c2 c3 c4 c5 c6 c7 c8
    obtain ⟨c0, c1, c2, c3, c4, c5, c6, c7, c8, _⟩ := R3.out.cells
    have hl8 : 1 ≤ l.length ∧ l.length ≤ 8 := by
      have := (check_zero HK.out).2.2
      simp only [withinB, Bool.and_eq_true, decide_eq_true_eq] at this
      omega
    obtain ⟨hl1, hl8⟩ := hl8
    have hl0 : ((l.length : Int) == 0) = false := by rw [beq_eq_false_iff_ne]; omega
    go_wp2_with fail
    refine (copy_any c _ l _ (HL.out _ R3.out.2.2) (by omega) HBS.out).mono ?_
    rintro e w5 ⟨A5, d5, m5, rfl, hp5, ho5, hs5, ha5, hal5⟩
    have hp6 := (Only.refl (fun _ => False) w5).alloc (.cells #[.int .i64 c.frags, .int .i64 c.spine, .int .i64 c.globals, .int .i64 c.threads, .int .i64 c.locals, .int .i64 c.cache, .int .i64 c.stack, .int .i64 c.low, .slice A5 l.length d5] 24)
    have hR6 := (R3.out.keep hp5).keep hp6
    have hD6 := Row.new w5 c (.slice A5 l.length d5)
    have hD : Row w w5.heap.size c (.slice A5 l.length d5) (w5.alloc (.cells #[.int .i64 c.frags, .int .i64 c.spine, .int .i64 c.globals, .int .i64 c.threads, .int .i64 c.locals, .int .i64 c.cache, .int .i64 c.stack, .int .i64 c.low, .slice A5 l.length d5] 24)) := ⟨(R3.out.keep hp5).2.2.size, hD6.2.1, hR6.2.2⟩
    have hSh : ShsR w5 w5.heap.size (.slice A5 l.length d5) m5 := ShsR.of_own ho5 hs5
    have HS := Lib.hid (fun (w' : World) (hq : Pure w5 w') => hSh.pure hq)
    have HP6 := Lib.hid hp6
    have HAL := Lib.hid hal5
    have HXD := Lib.hid (show X ≠ w5.heap.size from by have := (Array.getElem?_eq_some_iff.1 (R3.out.keep hp5).2.1).1; omega)
    have R6 := Lib.hid hR6
    have D6 := Lib.hid hD
    clear hp5 ho5 hs5 ha5 hal5 hp6 hR6 hD6 hD hSh c0 c1 c2 c3 c4 c5 c6 c7 c8
    obtain ⟨c0, c1, c2, c3, c4, c5, c6, c7, c8, f⟩ := D6.out.cells
    have f0 := f 0
    have f1 := f 1
    have f2 := f 2
    have f3 := f 3
    have f4 := f 4
    have f5 := f 5
    have f6 := f 6
    have f7 := f 7
    clear f
    go_wp2_with fail
    generalize w5.alloc (.cells #[.int .i64 c.frags, .int .i64 c.spine, .int .i64 c.globals, .int .i64 c.threads, .int .i64 c.locals, .int .i64 c.cache, .int .i64 c.stack, .int .i64 c.low, .slice A5 l.length d5] 24) = W6 at *
    generalize hDe : w5.heap.size = D at *
    have HDE := Lib.hid hDe
    clear hDe
    refine (check_any c _ m5 _ (HS.out _ HP6.out)).mono ?_
    rw [← alike.check HAL.out c, HK.out]
    rintro e w7 ⟨rfl, hp7⟩
    have R7 := Lib.hid (R6.out.keep hp7)
    have D7 := Lib.hid (D6.out.keep hp7)
    have HP7 := Lib.hid (Pure.then HP6.out hp7)
    clear hp7 c0 c1 c2 c3 c4 c5 c6 c7 c8 f0 f1 f2 f3 f4 f5 f6 f7
    obtain ⟨c0, c1, c2, c3, c4, c5, c6, c7, c8, f⟩ := D7.out.cells
    have f0 := f 0
    have f1 := f 1
    have f2 := f 2
    have f3 := f 3
    have f4 := f 4
    have f5 := f 5
    have f6 := f 6
    have f7 := f 7
    clear f
    have h7 := and7 which
    have hfb : 4 ≤ c.frags ∧ c.frags ≤ 1024 := by
      have := (check_zero HK.out).1
      simp only [tests, withinB, List.all_cons, List.all_nil, id, Bool.and_eq_true, decide_eq_true_eq, Bool.and_true, and_assoc] at this
      omega
    obtain ⟨fb0, fb1⟩ := hfb
    go_upto_block 0 with fail
    go_cut [30] (fun _ wx => Edge w X D c (.slice A l.length cc) (.slice A5 l.length d5) m5 wx)
    case first =>
      rcases (by omega : which % 8 = 0 ∨ which % 8 = 1 ∨ which % 8 = 2 ∨ which % 8 = 3 ∨ which % 8 = 4 ∨ which % 8 = 5 ∨ which % 8 = 6 ∨ which % 8 = 7) with h | h | h | h | h | h | h | h
      · clear h7
        go_wp2_with fail
        go_meet
        refine ⟨?_, ⟨⟨1025, c.spine, c.globals, c.threads, c.locals, c.cache, c.stack, c.low⟩, ?_, fun m => out_one (b := withinB 1025 4 1024) (by simp only [tests, List.mem_cons, true_or]) (by simp [withinB])⟩, ?_⟩
        · exact row_only R7.out ((Only.refl (fun q => q = D) w7).setCell (p := ⟨D, 0, none⟩) (fun _ => rfl) _) HXD.out (fun q hq e => by have := D7.out.1; omega)
        · exact D7.out.keepSet ⟨1025, c.spine, c.globals, c.threads, c.locals, c.cache, c.stack, c.low⟩ (Only.refl _ _) rfl
        · intro w' hq
          refine HS.out w' ?_
          exact Pure.then (HP7.out.setCell (p := ⟨D, 0, none⟩) (fun h => absurd h (show ¬ D < w5.heap.size from by have := HDE.out; omega)) _) hq
      · clear h7
        go_wp2_with fail
        go_meet
        refine ⟨?_, ⟨⟨c.frags, (-1), c.globals, c.threads, c.locals, c.cache, c.stack, c.low⟩, ?_, fun m => out_one (b := withinB (-1) 0 2048) (by simp only [tests, List.mem_cons, true_or, or_true]) (by simp [withinB])⟩, ?_⟩
        · exact row_only R7.out ((Only.refl (fun q => q = D) w7).setCell (p := ⟨D, 1, none⟩) (fun _ => rfl) _) HXD.out (fun q hq e => by have := D7.out.1; omega)
        · exact D7.out.keepSet ⟨c.frags, (-1), c.globals, c.threads, c.locals, c.cache, c.stack, c.low⟩ (Only.refl _ _) rfl
        · intro w' hq
          refine HS.out w' ?_
          exact Pure.then (HP7.out.setCell (p := ⟨D, 1, none⟩) (fun h => absurd h (show ¬ D < w5.heap.size from by have := HDE.out; omega)) _) hq
      · clear h7
        go_wp2_with fail
        go_meet
        refine ⟨?_, ⟨⟨c.frags, c.spine, 9, c.threads, c.locals, c.cache, c.stack, c.low⟩, ?_, fun m => out_one (b := withinB 9 0 8) (by simp only [tests, List.mem_cons, true_or, or_true]) (by simp [withinB])⟩, ?_⟩
        · exact row_only R7.out ((Only.refl (fun q => q = D) w7).setCell (p := ⟨D, 2, none⟩) (fun _ => rfl) _) HXD.out (fun q hq e => by have := D7.out.1; omega)
        · exact D7.out.keepSet ⟨c.frags, c.spine, 9, c.threads, c.locals, c.cache, c.stack, c.low⟩ (Only.refl _ _) rfl
        · intro w' hq
          refine HS.out w' ?_
          exact Pure.then (HP7.out.setCell (p := ⟨D, 2, none⟩) (fun h => absurd h (show ¬ D < w5.heap.size from by have := HDE.out; omega)) _) hq
      · clear h7
        go_wp2_with fail
        go_meet
        refine ⟨?_, ⟨⟨c.frags, c.spine, c.globals, 0, c.locals, c.cache, c.stack, c.low⟩, ?_, fun m => out_one (b := withinB 0 1 16) (by simp only [tests, List.mem_cons, true_or, or_true]) (by simp [withinB])⟩, ?_⟩
        · exact row_only R7.out ((Only.refl (fun q => q = D) w7).setCell (p := ⟨D, 3, none⟩) (fun _ => rfl) _) HXD.out (fun q hq e => by have := D7.out.1; omega)
        · exact D7.out.keepSet ⟨c.frags, c.spine, c.globals, 0, c.locals, c.cache, c.stack, c.low⟩ (Only.refl _ _) rfl
        · intro w' hq
          refine HS.out w' ?_
          exact Pure.then (HP7.out.setCell (p := ⟨D, 3, none⟩) (fun h => absurd h (show ¬ D < w5.heap.size from by have := HDE.out; omega)) _) hq
      · clear h7
        go_wp2_with fail
        go_meet
        refine ⟨?_, ⟨⟨c.frags, c.spine, c.globals, c.threads, 0, c.cache, c.stack, c.low⟩, ?_, fun m => out_one (b := withinB 0 1 8) (by simp only [tests, List.mem_cons, true_or, or_true]) (by simp [withinB])⟩, ?_⟩
        · exact row_only R7.out ((Only.refl (fun q => q = D) w7).setCell (p := ⟨D, 4, none⟩) (fun _ => rfl) _) HXD.out (fun q hq e => by have := D7.out.1; omega)
        · exact D7.out.keepSet ⟨c.frags, c.spine, c.globals, c.threads, 0, c.cache, c.stack, c.low⟩ (Only.refl _ _) rfl
        · intro w' hq
          refine HS.out w' ?_
          exact Pure.then (HP7.out.setCell (p := ⟨D, 4, none⟩) (fun h => absurd h (show ¬ D < w5.heap.size from by have := HDE.out; omega)) _) hq
      · clear h7
        go_wp2_with fail
        go_meet
        refine ⟨?_, ⟨⟨c.frags, c.spine, c.globals, c.threads, c.locals, c.cache, 0, c.low⟩, ?_, fun m => out_one (b := withinB 0 1 256) (by simp only [tests, List.mem_cons, true_or, or_true]) (by simp [withinB])⟩, ?_⟩
        · exact row_only R7.out ((Only.refl (fun q => q = D) w7).setCell (p := ⟨D, 6, none⟩) (fun _ => rfl) _) HXD.out (fun q hq e => by have := D7.out.1; omega)
        · exact D7.out.keepSet ⟨c.frags, c.spine, c.globals, c.threads, c.locals, c.cache, 0, c.low⟩ (Only.refl _ _) rfl
        · intro w' hq
          refine HS.out w' ?_
          exact Pure.then (HP7.out.setCell (p := ⟨D, 6, none⟩) (fun h => absurd h (show ¬ D < w5.heap.size from by have := HDE.out; omega)) _) hq
      · clear h7
        go_wp2_with fail
        go_meet
        refine ⟨?_, ⟨⟨c.frags, c.spine, c.globals, c.threads, c.locals, c.cache, c.stack, (c.frags + 1)⟩, ?_, fun m => out_one (b := withinB (c.frags + 1) 0 c.frags) (by simp only [tests, List.mem_cons, true_or, or_true]) (by simp [withinB]; omega)⟩, ?_⟩
        · exact row_only R7.out ((Only.refl (fun q => q = D) w7).setCell (p := ⟨D, 7, none⟩) (fun _ => rfl) _) HXD.out (fun q hq e => by have := D7.out.1; omega)
        · exact D7.out.keepSet ⟨c.frags, c.spine, c.globals, c.threads, c.locals, c.cache, c.stack, (c.frags + 1)⟩ (Only.refl _ _) rfl
        · intro w' hq
          refine HS.out w' ?_
          exact Pure.then (HP7.out.setCell (p := ⟨D, 7, none⟩) (fun h => absurd h (show ¬ D < w5.heap.size from by have := HDE.out; omega)) _) hq
      · clear h7
        go_wp2_with fail
        go_meet
        refine ⟨?_, ⟨⟨c.frags, c.spine, c.globals, c.threads, c.locals, 9, c.stack, c.low⟩, ?_, fun m => out_one (b := withinB 9 0 8) (by simp only [tests, List.mem_cons, true_or, or_true]) (by simp [withinB])⟩, ?_⟩
        · exact row_only R7.out ((Only.refl (fun q => q = D) w7).setCell (p := ⟨D, 5, none⟩) (fun _ => rfl) _) HXD.out (fun q hq e => by have := D7.out.1; omega)
        · exact D7.out.keepSet ⟨c.frags, c.spine, c.globals, c.threads, c.locals, 9, c.stack, c.low⟩ (Only.refl _ _) rfl
        · intro w' hq
          refine HS.out w' ?_
          exact Pure.then (HP7.out.setCell (p := ⟨D, 5, none⟩) (fun h => absurd h (show ¬ D < w5.heap.size from by have := HDE.out; omega)) _) hq
    case rest =>
      obtain ⟨hX, ⟨c', hD, hone⟩, hsh⟩ := hcut
      have XX := Lib.hid hX
      have ONE := Lib.hid hone
      have SH := Lib.hid hsh
      have DD := Lib.hid hD
      clear hX hone hsh hD c0 c1 c2 c3 c4 c5 c6 c7 c8 f0 f1 f2 f3 f4 f5 f6 f7 h7
      obtain ⟨c0, c1, c2, c3, c4, c5, c6, c7, c8, _⟩ := DD.out.cells
      go_wp2_with fail
      refine (check_any c' _ m5 _ (SH.out _ (Only.refl _ _))).mono ?_
      rw [ONE.out m5]
      rintro e w8 ⟨rfl, hp8⟩
      have R8 := Lib.hid (XX.out.keep hp8)
      clear hp8 c0 c1 c2 c3 c4 c5 c6 c7 c8
      obtain ⟨c0, c1, c2, c3, c4, c5, c6, c7, c8, _⟩ := R8.out.cells
      go_wp2_with fail
      refine (copy_any c _ l _ (HL.out _ R8.out.2.2) (by omega) HBS.out).mono ?_
      rintro e w9 ⟨A9, d9, m9, rfl, hp9, ho9, hs9, ha9, hal9⟩
      have hm9 := hal9.length
      obtain ⟨g, cap, hv, hg0⟩ := ho9.form (n := l.length) (by omega)
      injection hv with hv1 hv2 hv3
      subst hv1
      subst hv3
      clear hv2
      obtain ⟨s0, rest, rfl⟩ : ∃ s0 rest, m9 = s0 :: rest := by
        cases m9 with
        | nil => exact absurd hm9 (by simp only [List.length_nil]; omega)
        | cons s0 rest => exact ⟨s0, rest, rfl⟩
      have hlt9 := ho9.lt g rfl
      have hX9 := (Array.getElem?_eq_some_iff.1 R8.out.2.1).1
      have hz9 := hp9.size
      have hp10 := (Only.refl (fun _ => False) w9).alloc (.cells #[.int .i64 c.frags, .int .i64 c.spine, .int .i64 c.globals, .int .i64 c.threads, .int .i64 c.locals, .int .i64 c.cache, .int .i64 c.stack, .int .i64 c.low, .slice (some ⟨g, 0, none⟩) l.length d9] 24)
      have hge : g ≠ w9.heap.size := by omega
      have hgx : g ≠ X := by omega
      have HXE2 := Lib.hid (show X ≠ w9.heap.size from by omega)
      have hwg : w.heap.size ≤ g := by have := R8.out.2.2.size; omega
      have hE0 := Row.new w9 c (.slice (some ⟨g, 0, none⟩) l.length d9)
      have e8 := hE0.cells.2.2.2.2.2.2.2.2.1
      have ho10 := hp10.own ho9 (fun _ _ f => f)
      have g0 : (w9.alloc (.cells #[.int .i64 c.frags, .int .i64 c.spine, .int .i64 c.globals, .int .i64 c.threads, .int .i64 c.locals, .int .i64 c.cache, .int .i64 c.stack, .int .i64 c.low, .slice (some ⟨g, 0, none⟩) l.length d9] 24)).cell? ⟨g, 0, none⟩ = some (.bool s0.a) := ho10.cellAt 0 (by omega)
      have gf0 := ho10.frozenAt 0
      have O9 := Lib.hid ho9
      have R9 := Lib.hid (R8.out.keep hp9)
      have S9 := Lib.hid (fun s hs => hs9 s (List.mem_cons_of_mem _ hs))
      have A9 := Lib.hid (fun s hs q hq => ha9 s (List.mem_cons_of_mem _ hs) q hq)
      have HLT9 := Lib.hid hlt9
      have HGE := Lib.hid hge
      have HGX := Lib.hid hgx
      have HLEN := Lib.hid hm9
      clear hp10 hE0 ho10 ho9 hs9 ha9 hal9 hp9 hm9 hg0 c0 c1 c2 c3 c4 c5 c6 c7 c8
      go_wp2_with fail
      clear e8 g0 gf0
      have o11 : Only (fun q => q = g) w9 (w9.setCell ⟨g, 0, none⟩ (.bool true)) := (Only.refl (fun q => q = g) w9).setCell (p := ⟨g, 0, none⟩) (fun _ => rfl) _
      have h11 := (O9.out.stored 0 (.bool true)).1
      have hz11 : (w9.setCell ⟨g, 0, none⟩ (.bool true)).heap.size = w9.heap.size := by simp [World.setCell]
      generalize w9.setCell ⟨g, 0, none⟩ (.bool true) = V9 at *
      have hp12 := (Only.refl (fun _ => False) V9).alloc (.cells #[.int .i64 c.frags, .int .i64 c.spine, .int .i64 c.globals, .int .i64 c.threads, .int .i64 c.locals, .int .i64 c.cache, .int .i64 c.stack, .int .i64 c.low, .slice (some ⟨g, 0, none⟩) l.length d9] 24)
      have h12 := hp12.own h11 (fun _ _ f => f)
      have hE12 := Row.new V9 c (.slice (some ⟨g, 0, none⟩) l.length d9)
      have hp912 : Only (fun q => q = g) w9 (V9.alloc (.cells #[.int .i64 c.frags, .int .i64 c.spine, .int .i64 c.globals, .int .i64 c.threads, .int .i64 c.locals, .int .i64 c.cache, .int .i64 c.stack, .int .i64 c.low, .slice (some ⟨g, 0, none⟩) l.length d9] 24)) := o11.alloc _
      rw [hz11] at hE12
      have hR12 : Row w X c (.slice A l.length cc) (V9.alloc (.cells #[.int .i64 c.frags, .int .i64 c.spine, .int .i64 c.globals, .int .i64 c.threads, .int .i64 c.locals, .int .i64 c.cache, .int .i64 c.stack, .int .i64 c.low, .slice (some ⟨g, 0, none⟩) l.length d9] 24)) := row_only R9.out hp912 (fun e => HGX.out e.symm) (fun q hq e => by omega)
      have hEw : Row w w9.heap.size c (.slice (some ⟨g, 0, none⟩) l.length d9) (V9.alloc (.cells #[.int .i64 c.frags, .int .i64 c.spine, .int .i64 c.globals, .int .i64 c.threads, .int .i64 c.locals, .int .i64 c.cache, .int .i64 c.stack, .int .i64 c.low, .slice (some ⟨g, 0, none⟩) l.length d9] 24)) := ⟨R9.out.2.2.size, hE12.2.1, hR12.2.2⟩
      have hs12 : ∀ s ∈ rest, SlG (V9.alloc (.cells #[.int .i64 c.frags, .int .i64 c.spine, .int .i64 c.globals, .int .i64 c.threads, .int .i64 c.locals, .int .i64 c.cache, .int .i64 c.stack, .int .i64 c.low, .slice (some ⟨g, 0, none⟩) l.length d9] 24)) (V9.alloc (.cells #[.int .i64 c.frags, .int .i64 c.spine, .int .i64 c.globals, .int .i64 c.threads, .int .i64 c.locals, .int .i64 c.cache, .int .i64 c.stack, .int .i64 c.low, .slice (some ⟨g, 0, none⟩) l.length d9] 24)).heap.size s.v (bools s.bs) := fun s hs => (S9.out s hs).only hp912 (fun q hq e => (A9.out s hs q hq).1 (by rw [e]; rfl))
      have ha12 : ∀ s ∈ rest, ∀ q, s.v.ownBlock = some q → q ≠ g ∧ q < w9.heap.size := fun s hs q hq => ⟨fun e => (A9.out s hs q hq).1 (by rw [e]; rfl), (A9.out s hs q hq).2⟩
      have hgz : g < w9.heap.size := by have := HLT9.out; omega
      have hEz : w9.heap.size < (V9.alloc (.cells #[.int .i64 c.frags, .int .i64 c.spine, .int .i64 c.globals, .int .i64 c.threads, .int .i64 c.locals, .int .i64 c.cache, .int .i64 c.stack, .int .i64 c.low, .slice (some ⟨g, 0, none⟩) l.length d9] 24)).heap.size := by simp; omega
      generalize V9.alloc (.cells #[.int .i64 c.frags, .int .i64 c.spine, .int .i64 c.globals, .int .i64 c.threads, .int .i64 c.locals, .int .i64 c.cache, .int .i64 c.stack, .int .i64 c.low, .slice (some ⟨g, 0, none⟩) l.length d9] 24) = W12 at *
      generalize w9.heap.size = E at *
      have e8 := hEw.cells.2.2.2.2.2.2.2.2.1
      have g1 : W12.cell? ⟨g, 1, none⟩ = some s0.v := h12.cellAt 1 (by omega)
      have gf1 := h12.frozenAt 1
      have HG := Lib.hid (⟨h12, hEw, hR12, hs12, ha12⟩ : _ ∧ _ ∧ _ ∧ _ ∧ _)
      have n1 := World.new_ne W12 ⟨E, 8, none⟩ e8
      have n2 := World.new_ne W12 ⟨g, 1, none⟩ g1
      clear hR12 hs12 ha12 hEw h12 h11 hE12 hp912 hp12 o11 hz11
      have hg12 : g < W12.heap.size := by omega
      have q1 : (W12.drew.alloc (.cells #[.bool false, .bool false] 4)).cell? ⟨g, 1, none⟩ = some s0.v := (((Only.refl (fun _ => False) W12).drewN 1).alloc (.cells #[.bool false, .bool false] 4)).cell hg12 (fun f => f) |>.trans g1
      have qf1 : (W12.drew.alloc (.cells #[.bool false, .bool false] 4)).frozen? ⟨g, 1, none⟩ = false := (((Only.refl (fun _ => False) W12).drewN 1).alloc (.cells #[.bool false, .bool false] 4)).own HG.out.1 (fun _ _ f => f) |>.frozenAt 1
      have hl1i : (0 : Int) < (l.length : Int) := by omega
      have hl1n : 0 < l.length := by omega
      have hmk : ∀ u : World, (Instr.makeSlice 30 (.int .i64 2) (.int .i64 2)).run Try.prog u = .ok (.slice (some ⟨u.heap.size, 0, none⟩) 2 2) (u.alloc (.cells #[.bool false, .bool false] 4)) := fun _ => by kernel_rfl
      go_region_held3 (fun w' => w'.cell? ⟨E, 8, none⟩ = some (.slice (some ⟨g, 0, none⟩) l.length d9)) (go_keep) (fail)
      all_goals
        go_upto_region 32 with fail
        clear e8 g1 gf1 n1 n2 q1 qf1 hmk
        have hS13 : Only (fun q => q = g) W12 ((W12.setCell ⟨g, 1, none⟩ (.slice (some ⟨W12.heap.size, 0, none⟩) 2 2)).alloc (.cells #[.bool false, .bool false] 4)).drew := (((Only.refl (fun q => q = g) W12).setCell (p := ⟨g, 1, none⟩) (fun _ => rfl) _).alloc _).drewN 1
        have ho13 := ((((Only.refl (fun _ => False) (W12.setCell ⟨g, 1, none⟩ (.slice (some ⟨W12.heap.size, 0, none⟩) 2 2))).alloc (.cells #[.bool false, .bool false] 4)).drewN 1).own (HG.out.1.stored 1 (.slice (some ⟨W12.heap.size, 0, none⟩) 2 2)).1 (fun _ _ f => f))
        have hnb : ((W12.setCell ⟨g, 1, none⟩ (.slice (some ⟨W12.heap.size, 0, none⟩) 2 2)).alloc (.cells #[.bool false, .bool false] 4)).drew.heap[W12.heap.size]? = some (.cells #[.bool false, .bool false] 4) := by
          have hz : (W12.setCell ⟨g, 1, none⟩ (.slice (some ⟨W12.heap.size, 0, none⟩) 2 2)).heap.size = W12.heap.size := by simp [World.setCell]
          have h := heap_alloc_new (W12.setCell ⟨g, 1, none⟩ (.slice (some ⟨W12.heap.size, 0, none⟩) 2 2)) (.cells #[.bool false, .bool false] 4)
          rw [hz] at h
          exact h
        have hw12 : w.heap.size ≤ W12.heap.size := HG.out.2.2.1.2.2.size
        have hFin : Fin w w8.heap.size X E c (.slice A l.length cc) l.length (.slice (some ⟨g, 0, none⟩) l.length d9) (⟨true, (.slice (some ⟨W12.heap.size, 0, none⟩) 2 2), [false, false]⟩ :: rest) ((W12.setCell ⟨g, 1, none⟩ (.slice (some ⟨W12.heap.size, 0, none⟩) 2 2)).alloc (.cells #[.bool false, .bool false] 4)).drew := by
          refine ⟨row_only HG.out.2.1 hS13 (fun e => HGE.out e.symm) (fun q hq e => by omega), row_only HG.out.2.2.1 hS13 (fun e => HGX.out e.symm) (fun q hq e => by omega), ho13, ?_, ?_, ?_, ?_⟩
          · intro s hs
            rcases List.mem_cons.1 hs with rfl | hs
            · refine ⟨_, 2, rfl, by simp [bools], by omega, fun _ => ⟨W12.heap.size, 0, rfl, (Array.getElem?_eq_some_iff.1 hnb).1, fun j u hu => ?_⟩⟩
              rw [cell_of_row _ _ _ _ _ _ hnb, Nat.zero_add]
              simpa [bools] using hu
            · exact (HG.out.2.2.2.1 s hs).only hS13 (fun q hq => (HG.out.2.2.2.2 s hs q hq).1)
          · intro s hs q hq
            rcases List.mem_cons.1 hs with rfl | hs
            · have hq' : W12.heap.size = q := by simpa [Value.ownBlock] using hq
              refine ⟨fun e => ?_, by omega, by have := (Array.getElem?_eq_some_iff.1 hnb).1; omega⟩
              have : g = q := by simpa [Value.ownBlock] using e
              omega
            · have := HG.out.2.2.2.2 s hs q hq
              have hz := hS13.size
              refine ⟨fun e => this.1 ?_, by omega, by omega⟩
              have : g = q := by simpa [Value.ownBlock] using e
              exact this.symm
          · intro q hq
            have : g = q := by simpa [Value.ownBlock] using hq
            subst this
            exact ⟨HGE.out, HGX.out, hwg⟩
          · exact HXE2.out
        have FIN := Lib.hid hFin
        clear hS13 ho13 hnb hw12 hFin
        generalize ((W12.setCell ⟨g, 1, none⟩ (.slice (some ⟨W12.heap.size, 0, none⟩) 2 2)).alloc (.cells #[.bool false, .bool false] 4)).drew = W13 at *
        obtain ⟨c0, c1, c2, c3, c4, c5, c6, c7, c8, _⟩ := FIN.out.e.cells
        have F14 := Lib.hid (FIN.out.pure ((Only.refl (fun _ => False) W13).alloc (.cells #[.bool false, .slice none 0 0] 32)))
        have hbs14 : w8.heap.size ≤ (W13.alloc (.cells #[.bool false, .slice none 0 0] 32)).heap.size := by
          have := (Array.getElem?_eq_some_iff.1 FIN.out.e.2.1).1
          have := HLT9.out
          simp
          omega
        generalize hsl : (Value.slice (some ⟨W12.heap.size, 0, none⟩) 2 2) = sl at FIN F14
        clear hsl
        go_wp2_with (at_builtin; refine wpList_app _ rfl (.tmp 77) (.tmp 79) _ rfl w8.heap.size 32 i0 _ 2 32 Try.underlying22 hi0 hz0 hz1 hz2 rfl (by omega) (.slice (some ⟨g, 0, none⟩) l.length d9) l.length (shCells (⟨true, sl, [false, false]⟩ :: rest)) rfl F14.out.own _ 1 1 [.bool false, .slice none 0 0] rfl (Src.row W13 _ #[.bool false, .slice none 0 0] 2 1 _ rfl rfl) (by simp [Value.oneCell']) (by simp only [maxLen]; omega) (by omega) hbs14 ?_; intro v2 w2 hown2 hg2 hat2; obtain ⟨A2, d2, rfl⟩ := own_form hown2; have hst := F14.out.step hown2 hg2 hat2; have x8 := hst.1.cells.2.2.2.2.2.2.2.2.1; have xf := hst.1.cells.2.2.2.2.2.2.2.2.2 8; have ST := Lib.hid hst.2; clear hown2 hg2 hat2 hst)
        refine (first_any _).mono ?_
        rintro e w15 ⟨rfl, hp15⟩
        have F15 := Lib.hid (ST.out.pure hp15)
        clear hp15 c0 c1 c2 c3 c4 c5 c6 c7 c8 x8 xf
        obtain ⟨c0, c1, c2, c3, c4, c5, c6, c7, c8, _⟩ := F15.out.e.cells
        have hm15 : (⟨true, sl, [false, false]⟩ :: rest ++ [(⟨false, .slice none 0 0, []⟩ : Sh)]).length = l.length + 1 := by
          have := F15.out.own.1
          rw [shCells_length] at this
          omega
        have HM15 := Lib.hid hm15
        clear hm15
        go_wp2_with fail
        have hck := check_any c (.slice A2 (l.length + 1) d2) (⟨true, sl, [false, false]⟩ :: rest ++ [(⟨false, .slice none 0 0, []⟩ : Sh)]) w15 (ShsR.of_own F15.out.own F15.out.sl)
        rw [List.cons_append, check_turned HK.out] at hck
        have HCK := Lib.hid hck
        clear hck
        refine HCK.out.mono ?_
        rintro e w16 ⟨rfl, hp16⟩
        have R16 := Lib.hid (F15.out.x.keep hp16)
        clear hp16 c0 c1 c2 c3 c4 c5 c6 c7 c8
        obtain ⟨c0, c1, c2, c3, c4, c5, c6, c7, c8, _⟩ := R16.out.cells
        go_wp2_with fail
        refine (check_any c _ l _ (HL.out _ R16.out.2.2)).mono ?_
        rw [HK.out]
        rintro e w17 ⟨rfl, hp17⟩
        have P17 := Lib.hid (R16.out.2.2.then hp17)
        clear hp17
        go_wp2
        go_ret
        exact ⟨rfl, P17.out⟩

theorem open_0 {H : Type} {enc : TypeId × Value → H} {W : World} {b0 base : Nat} {v : Value} {d : DataW H} {ps : List MemPlace} {r : Reach}
    (hval : Value.okWide Try.prog W r b0 24 v) (h : DataW.Trod enc Try.prog W base (fun _ => true) true 24 v d ps) : ∃ x : Cn × Value × List Sh, v = cnV x.1 x.2.1 ∧ ShsR W W.heap.size x.2.1 x.2.2 := open_conf hval h

theorem walk (w : World) (v : Value) (x : Cn × Value × List Sh) (h : v = cnV x.1 x.2.1 ∧ ShsR w w.heap.size x.2.1 x.2.2) (which : Int) (_hk : -2^63 ≤ which ∧ which ≤ 2^63-1) :
    Calls Try.prog 5 #[v, .int .i64 which] w fun e w' => e = .returned (.bool true) ∧ Pure w w' := by
  obtain ⟨rfl, hs⟩ := h
  exact main x.1 x.2.1 x.2.2 which w hs

set_option maxRecDepth 100000 in
theorem lifted (os : Os) (started : os.Started) (H : Type) (enc : TypeId × Value → H) :
    ReturnsInHanded {} Try.checked os 5 .any (Rows.confEdgesSpec.pre6 enc Try.prog Try.f5 Rows.confEdgesRow.domain false) (Rows.confEdgesSpec.post enc Try.prog Try.f5 false true false false) :=
  lift_law (C := Try.checked) own started (by kernel_rfl) Try.func5 laidOut (by kernel_rfl) rfl rfl Try.underlying4
    (fun ds h => by match ds, h with | [_, _], _ => rfl)
    (ChangeSpec.witness6 (enc := enc) (C := Try.checked) false ⟨#[], #[.agg #[.int .i64 0, .int .i64 0, .int .i64 0, .int .i64 0, .int .i64 0, .int .i64 0, .int .i64 0, .int .i64 0, .slice none 0 0], .int .i64 0], []⟩ 8 (by kernel_rfl) (by kernel_rfl) (by kernel_rfl) (by kernel_rfl))
    (fun W base args ds ps hval hA hlt => by
      have hA' : DataW.TrodAll enc Try.prog W 0 (fun _ => true) true Try.f5.params.toList args.toList ds ps := hA
      rw [Try.params5] at hA'
      have hval' : ∀ (j : Nat) t v, Try.f5.params[j]? = some t → args[j]? = some v → Value.okWide Try.prog W .any base t v := hval
      rw [Try.params5] at hval'
      obtain ⟨v0, vs0, d0, ds0, p0, q0, hargs, rfl, rfl, h0, r0⟩ := trodAll_cons hA'
      obtain ⟨v1, vs1, d1, ds1, p1, q1, rfl, rfl, rfl, h1, r1⟩ := trodAll_cons r0
      obtain ⟨rfl, rfl, rfl⟩ := trodAll_nil r1
      obtain rfl : args = #[v0, v1] := by cases args; simp_all
      obtain ⟨x0, s0⟩ := open_0 (hval' 0 24 v0 rfl rfl) h0
      obtain ⟨a1, rfl, rfl, rfl, w1⟩ := open_int Try.underlying3 (hval' 1 3 v1 rfl rfl) h1
      exact (walk W _ x0 s0 a1 (int_bounds w1)).mono fun e W' ⟨he, hp⟩ => ⟨he, hp.below⟩)

/-- The statement. -/
theorem proved : Rows.ConfEdgesSaid :=
  OpenClaim.holds_of_wide 5 Try.f5 rfl rfl rfl rfl rfl rfl rfl ⟨rfl, rfl, rfl, rfl, rfl⟩ rfl rfl rfl rfl rfl (by kernel_rfl) Try.func5 (by kernel_rfl)
    (of_decide_eq_true (by kernel_rfl)) (by unfold Func.isWrapper; first | (rw [if_pos (by decide +kernel)]; kernel_rfl) | (rw [if_neg (by decide +kernel)]; exact ⟨rfl, rfl⟩))
    (fun os started H enc _ => lifted os started H enc)
#print axioms proved

end Go.Proofs.Ythinbbhjfojhaaa.confEdges
