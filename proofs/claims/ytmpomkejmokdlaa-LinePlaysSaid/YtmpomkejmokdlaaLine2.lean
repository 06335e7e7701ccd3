/-
  Contracts of line.New and of the line's looks: of, first, at, Of, First, Waits; of slices.Clone at ints.
-/
import Derived.Test.YtmpomkejmokdlaaLine1
namespace Go.Proofs.Ytmpomkejmokdlaa
open Go.RowKit

theorem int_info : (Try.prog.info? 3).map (fun i => (i.zero, i.size, i.bytes)) = some (some (.int .i64 0), 1, 8) := by kernel_rfl

/-- slices.Clone: a row of the call's own with the same numbers. -/
theorem clone_any (v : Value) (xs : List Int) (w : World) (h : SlI w w.heap.size v xs) (hx : xs.length ≤ 1000000) :
    Calls Try.prog 36 #[v] w fun e w' => ∃ v', e = .returned v' ∧ Pure w w' ∧ w'.ownsRow w.heap.size 3 1 v' xs.length (ints xs) := by
  obtain ⟨i0, hi0, hz0, hz1, hz2⟩ := info_parts int_info
  have h' := h
  obtain ⟨A, c, rfl, h1, h2, h3, h4⟩ := h'
  rcases A with _ | ad
  · have hl : xs.length = 0 := by
      rcases Nat.eq_zero_or_pos xs.length with h0 | h0
      · exact h0
      · obtain ⟨b, off, e, _⟩ := h4 h0
        cases e
    obtain rfl : xs = [] := List.eq_nil_of_length_eq_zero hl
    have heq := fun w : World => Lib.run_eql_slice_nil (P := Try.prog) w 22 3 none 0 c 0 0 Try.underlying22
    go_enter Try.func36, Try.ntmps36
    go_wp2
    go_ret
    exact ⟨_, rfl, Only.refl _ _, World.ownsRow_nil _ _ _ _⟩
  · have hs := h.src.2
    have hs' : Src (w.alloc (.cells #[] 3)) 1 (some ad) xs.length (ints xs) := hs.below ((Below.refl w.heap.size w).alloc (Nat.le_refl _) _) (fun b hm e => by injection e with e; subst e; obtain ⟨b', off, e', hb, _⟩ := h4 hm; injection e' with e'; subst e'; exact hb)
    have heq := fun w : World => Lib.run_eql_slice_nil (P := Try.prog) w 22 3 (some ad) xs.length c 0 0 Try.underlying22
    clear h h4
    go_enter Try.func36, Try.ntmps36
    go_wp2_with (at_builtin; refine wpList_app _ rfl (.tmp 5) (.tmp 6) _ rfl w.heap.size 3 i0 _ 1 8 Try.underlying22 hi0 hz0 hz1 hz2 rfl (by omega) _ 0 [] rfl (World.ownsRow_made w #[] 0 (Nat.le_refl _) (by simp [maxLen]) rfl) _ _ _ _ rfl hs' (ints_one xs) (by simp only [maxLen]; omega) (by omega) (by simp) ?_; intro v1 w1 hown1 hg1 hat1)
    go_ret
    refine ⟨_, rfl, ((Only.refl _ _).alloc _).grown hg1 (fun k hk e => ?_), by simpa using hown1⟩
    injection e with e
    exact absurd e (Nat.ne_of_gt hk)

theorem new_any (w : World) : Calls Try.prog 8 #[] w fun e w' => e = .returned (.pointer (some ⟨w.heap.size, 0, none⟩)) ∧ w' = w.alloc (.cells #[.slice none 0 0] 50) := by
  go_enter Try.func8, Try.ntmps8
  go_wp2_with fail
  go_ret
  exact ⟨rfl, rfl⟩
theorem line_new (w : World) : LineOf (w.alloc (.cells #[.slice none 0 0] 50)) w.heap.size (.slice none 0 0) [] :=
  ⟨heap_alloc_new w _, World.ownsRow_nil _ _ _ _, fun e he => by simp at he, by simp, fun e he => by simp at he⟩

theorem of_any (P : Nat) (v : Value) (l : List En) (t : Int) (w : World) (hl : LineOf w P v l) :
    Calls Try.prog 32 #[.pointer (some ⟨P, 0, none⟩), .int .i64 t] w fun e w' => e = .returned (.int .i64 (ixI (isT t) l)) ∧ Pure w w' := by
  have hp1 := (Only.refl (fun _ => False) w).alloc (.cells #[.int .i64 t] 3)
  have HL := Lib.hid (hl.pure hp1)
  have P1 := Lib.hid hp1
  have hc : (w.alloc (.cells #[.int .i64 t] 3)).cell? ⟨w.heap.size, 0, none⟩ = some (.int .i64 t) := by simp
  have HC := Lib.hid hc
  obtain ⟨A, c, rfl⟩ := hl.form
  have c0 := (hl.pure hp1).c0
  clear hl hp1 hc
  go_enter Try.func32, Try.ntmps32
  go_wp2_with fail
  refine (index_of P _ l _ t _ HL.out HC.out).mono ?_
  rintro e w2 ⟨rfl, hp2⟩
  have P2 := Lib.hid (Pure.then P1.out hp2)
  clear hp2
  go_wp2_with fail
  go_ret
  exact ⟨rfl, P2.out⟩
theorem first_any' (P : Nat) (v : Value) (l : List En) (w : World) (hl : LineOf w P v l) :
    Calls Try.prog 35 #[.pointer (some ⟨P, 0, none⟩)] w fun e w' => e = .returned (.int .i64 (ixI isW l)) ∧ Pure w w' := by
  have HL := Lib.hid hl
  obtain ⟨A, c, rfl⟩ := hl.form
  have c0 := hl.c0
  clear hl
  go_enter Try.func35, Try.ntmps35
  go_wp2_with fail
  refine (index_first P _ l _ HL.out).mono ?_
  rintro e w2 ⟨rfl, hp2⟩
  have P2 := Lib.hid hp2
  clear hp2
  go_wp2_with fail
  go_ret
  exact ⟨rfl, P2.out⟩

theorem at_no (P : Nat) (i : Int) (w : World) (hi : i < 0) :
    Calls Try.prog 34 #[.pointer (some ⟨P, 0, none⟩), .int .i64 i] w fun e w' => e = .returned (.tuple #[reqV default (.slice none 0 0), .bool false]) ∧ Pure w w' := by
  go_enter Try.func34, Try.ntmps34
  go_wp2_with fail
  exact bodyPost_ret (v := .tuple #[reqV default (.slice none 0 0), .bool false]) (by simp [results, Try.results34, go_sem, default]) rfl ⟨rfl, (Only.refl _ _).alloc _⟩

theorem only_set {a w : World} {X : Nat} (h : Only (fun q => q = X) a w) (i : Nat) (u : Value) : Only (fun q => q = X) a (w.setCell ⟨X, i, none⟩ u) := h.setCell (p := ⟨X, i, none⟩) (fun _ => rfl) u
/-- A place of seven cells. -/
theorem seven {w : World} {Y : Nat} {x0 x1 x2 x3 x4 x5 x6 : Value} {T : TypeId} (h : w.heap[Y]? = some (.cells #[x0, x1, x2, x3, x4, x5, x6] T (0, 0))) :
    w.cell? ⟨Y, 0, none⟩ = some x0 ∧ w.cell? ⟨Y, 1, none⟩ = some x1 ∧ w.cell? ⟨Y, 2, none⟩ = some x2 ∧ w.cell? ⟨Y, 3, none⟩ = some x3 ∧ w.cell? ⟨Y, 4, none⟩ = some x4 ∧ w.cell? ⟨Y, 5, none⟩ = some x5 ∧ w.cell? ⟨Y, 6, none⟩ = some x6 ∧
      w.frozen? ⟨Y, 0, none⟩ = false ∧ w.frozen? ⟨Y, 1, none⟩ = false ∧ w.frozen? ⟨Y, 2, none⟩ = false ∧ w.frozen? ⟨Y, 3, none⟩ = false ∧ w.frozen? ⟨Y, 4, none⟩ = false ∧ w.frozen? ⟨Y, 5, none⟩ = false ∧ w.frozen? ⟨Y, 6, none⟩ = false := by
  refine ⟨?_, ?_, ?_, ?_, ?_, ?_, ?_, frozen_of_row w Y _ _ _ h, frozen_of_row w Y _ _ _ h, frozen_of_row w Y _ _ _ h, frozen_of_row w Y _ _ _ h, frozen_of_row w Y _ _ _ h, frozen_of_row w Y _ _ _ h, frozen_of_row w Y _ _ _ h⟩ <;> (rw [cell_of_row w Y _ _ _ _ h]; rfl)

set_option maxRecDepth 100000 in
set_option maxHeartbeats 1000000 in
theorem at_in (P : Nat) (v : Value) (l : List En) (k : Nat) (e : En) (w : World) (hl : LineOf w P v l) (he : l[k]? = some e) :
    Calls Try.prog 34 #[.pointer (some ⟨P, 0, none⟩), .int .i64 k] w fun e' w' => ∃ A c, e' = .returned (.tuple #[reqV e (.slice A e.got.length c), .bool true]) ∧ Pure w w' ∧ SlI w' w'.heap.size (.slice A e.got.length c) e.got ∧ ∀ q, (Value.slice A e.got.length c).ownBlock = some q → w.heap.size ≤ q := by
  have hp1 := (Only.refl (fun _ => False) w).alloc (.cells #[.int .i64 0, .int .i64 0, .int .i64 0, .int .i64 0, .int .i64 0, .int .i64 0, .slice none 0 0] 28)
  have hl1 := hl.pure hp1
  obtain ⟨g, cg, rfl, d0, d1, d2, d3, d4, d5, d6, d7, _⟩ := hl1.cells he
  have hlt := (List.getElem?_eq_some_iff.1 he).1
  have hfew := hl.few
  have hS := (hl.got e (List.mem_of_getElem? he)).1
  have hsh := hl.short e (List.mem_of_getElem? he)
  have c0 := hl1.c0
  obtain ⟨G, gc, hgv, _⟩ := id hS
  rw [hgv] at d6 hS
  have HS := Lib.hid (fun (w' : World) (hp : Pure w w') => hS.only hp (fun _ _ f => f))
  have hp2 : Pure w ((w.alloc (.cells #[.int .i64 0, .int .i64 0, .int .i64 0, .int .i64 0, .int .i64 0, .int .i64 0, .slice none 0 0] 28)).alloc (.cells #[.int .i64 e.thread, .int .i64 e.frags, .int .i64 e.spine, .int .i64 e.state, .int .i64 e.cycles, .int .i64 e.at_, .slice G e.got.length gc] 28)) := hp1.alloc _
  have hy := heap_alloc_new (w.alloc (.cells #[.int .i64 0, .int .i64 0, .int .i64 0, .int .i64 0, .int .i64 0, .int .i64 0, .slice none 0 0] 28)) (.cells #[.int .i64 e.thread, .int .i64 e.frags, .int .i64 e.spine, .int .i64 e.state, .int .i64 e.cycles, .int .i64 e.at_, .slice G e.got.length gc] 28)
  rw [show (w.alloc (.cells #[.int .i64 0, .int .i64 0, .int .i64 0, .int .i64 0, .int .i64 0, .int .i64 0, .slice none 0 0] 28)).heap.size = w.heap.size + 1 from by simp] at hy
  have hx := (((Only.refl (fun _ => False) (w.alloc (.cells #[.int .i64 0, .int .i64 0, .int .i64 0, .int .i64 0, .int .i64 0, .int .i64 0, .slice none 0 0] 28))).alloc (.cells #[.int .i64 e.thread, .int .i64 e.frags, .int .i64 e.spine, .int .i64 e.state, .int .i64 e.cycles, .int .i64 e.at_, .slice G e.got.length gc] 28)).block w.heap.size (by simp) (fun f => f)).trans (heap_alloc_new w (.cells #[.int .i64 0, .int .i64 0, .int .i64 0, .int .i64 0, .int .i64 0, .int .i64 0, .slice none 0 0] 28))
  have P2 := Lib.hid hp2
  have HX := Lib.hid hx
  have HY := Lib.hid hy
  clear hS he hgv hl hp1 hl1 hp2 hx hy
  go_enter Try.func34, Try.ntmps34
  go_wp2_with fail
  clear d0 d1 d2 d3 d4 d5 d6 d7 c0
  generalize (w.alloc (.cells #[.int .i64 0, .int .i64 0, .int .i64 0, .int .i64 0, .int .i64 0, .int .i64 0, .slice none 0 0] 28)).alloc (.cells #[.int .i64 e.thread, .int .i64 e.frags, .int .i64 e.spine, .int .i64 e.state, .int .i64 e.cycles, .int .i64 e.at_, .slice G e.got.length gc] 28) = W2 at *
  refine (clone_any _ e.got _ (HS.out _ P2.out) (by omega)).mono ?_
  rintro e1 w3 ⟨v3, rfl, hp3, ho3⟩
  obtain ⟨A3, c3, rfl⟩ := own_form ho3
  have hx3 := (hp3.block _ (Array.getElem?_eq_some_iff.1 HX.out).1 (fun f => f)).trans HX.out
  have hy3 := (hp3.block _ (Array.getElem?_eq_some_iff.1 HY.out).1 (fun f => f)).trans HY.out
  obtain ⟨x0, x1, x2, x3, x4, x5, x6, xf0, xf1, xf2, xf3, xf4, xf5, xf6⟩ := seven hx3
  obtain ⟨y0, y1, y2, y3, y4, y5, y6, yf0, yf1, yf2, yf3, yf4, yf5, yf6⟩ := seven hy3
  have P3 := Lib.hid (P2.out.then hp3)
  have HO3 := Lib.hid ho3
  have HSZ := Lib.hid (show w.heap.size + 1 < W2.heap.size from (Array.getElem?_eq_some_iff.1 HY.out).1)
  have HRNG := Lib.hid (show ∀ x ∈ e.got, -9223372036854775808 ≤ x ∧ x ≤ 9223372036854775807 from by obtain ⟨_, _, _, _, _, h, _⟩ := HS.out _ P2.out; exact h)
  clear hp3 ho3 hx3 hy3
  go_wp2_with fail
  refine bodyPost_ret (v := .tuple #[reqV e (.slice A3 e.got.length c3), .bool true]) (by simp [results, Try.results34, go_sem, x0, x1, x2, x3, x4, x5, x6]) rfl ⟨A3, c3, rfl, ?_⟩
  have key : ∀ wf, Only (fun q => q = w.heap.size ∨ q = w.heap.size + 1) w3 wf → Pure w wf ∧ SlI wf wf.heap.size (.slice A3 e.got.length c3) e.got ∧ ∀ q, (Value.slice A3 e.got.length c3).ownBlock = some q → w.heap.size ≤ q := fun wf ho =>
    ⟨P3.out.trans ho (fun i hi e => by omega), SlI.of_own (ho.own HO3.out (fun q hq e => by have := (HO3.out.lt q hq).1; have := HSZ.out; omega)) HRNG.out, fun q hq => by have := (HO3.out.lt q hq).1; have := HSZ.out; omega⟩
  refine key _ ?_
  iterate 7 refine Only.setCell ?_ (fun _ => .inl rfl) _
  exact (Only.refl _ w3).setCell (fun _ => .inr rfl) _


set_option maxRecDepth 100000 in
theorem lineOf_in (P : Nat) (v : Value) (l : List En) (k : Nat) (e : En) (t : Int) (w : World) (hl : LineOf w P v l) (he : l[k]? = some e) (hix : ixI (isT t) l = k) :
    Calls Try.prog 16 #[.pointer (some ⟨P, 0, none⟩), .int .i64 t] w fun e' w' => ∃ A c, e' = .returned (.tuple #[reqV e (.slice A e.got.length c), .bool true]) ∧ Pure w w' ∧ SlI w' w'.heap.size (.slice A e.got.length c) e.got ∧ ∀ q, (Value.slice A e.got.length c).ownBlock = some q → w.heap.size ≤ q := by
  have HE := Lib.hid he
  clear he
  have hp1 := (Only.refl (fun _ => False) w).alloc (.cells #[.int .i64 0, .int .i64 0, .int .i64 0, .int .i64 0, .int .i64 0, .int .i64 0, .slice none 0 0] 28)
  have HL := Lib.hid (fun (w' : World) (hp : Pure w w') => hl.pure hp)
  have P1 := Lib.hid hp1
  have HX := Lib.hid (heap_alloc_new w (.cells #[.int .i64 0, .int .i64 0, .int .i64 0, .int .i64 0, .int .i64 0, .int .i64 0, .slice none 0 0] 28))
  have HIX := Lib.hid hix
  clear hl hp1 hix
  go_enter Try.func16, Try.ntmps16
  go_wp2_with fail
  generalize w.alloc (.cells #[.int .i64 0, .int .i64 0, .int .i64 0, .int .i64 0, .int .i64 0, .int .i64 0, .slice none 0 0] 28) = W1 at *
  refine (of_any P v l t _ (HL.out _ P1.out)).mono ?_
  rw [HIX.out]
  rintro e1 w2 ⟨rfl, hp2⟩
  have P2 := Lib.hid (Pure.then P1.out hp2)
  have hx2 := (hp2.block _ (Array.getElem?_eq_some_iff.1 HX.out).1 (fun f => f)).trans HX.out
  have HX2 := Lib.hid hx2
  clear hp2 hx2
  go_wp2_with fail
  refine (at_in P v l k e _ (HL.out _ P2.out) HE.out).mono ?_
  rintro e1 w3 ⟨A3, c3, rfl, hp3, hs3, hq3⟩
  have HQ3 := Lib.hid hq3
  have HXZ := Lib.hid (show w.heap.size < w2.heap.size from (Array.getElem?_eq_some_iff.1 HX2.out).1)
  clear hq3
  have hx3 := (hp3.block _ (Array.getElem?_eq_some_iff.1 HX2.out).1 (fun f => f)).trans HX2.out
  obtain ⟨x0, x1, x2, x3, x4, x5, x6, xf0, xf1, xf2, xf3, xf4, xf5, xf6⟩ := seven hx3
  have P3 := Lib.hid (P2.out.then hp3)
  have HS3 := Lib.hid hs3
  clear hp3 hs3 hx3
  go_wp2_with fail
  refine bodyPost_ret (v := .tuple #[reqV e (.slice A3 e.got.length c3), .bool true]) (by simp [results, Try.results16, go_sem, x0, x1, x2, x3, x4, x5, x6]) rfl ⟨A3, c3, rfl, ?_⟩
  have key : ∀ wf, Only (fun q => q = w.heap.size) w3 wf → Pure w wf ∧ SlI wf wf.heap.size (.slice A3 e.got.length c3) e.got ∧ ∀ q, (Value.slice A3 e.got.length c3).ownBlock = some q → w.heap.size ≤ q := fun wf ho =>
    ⟨P3.out.trans ho (fun i hi e => by omega), HS3.out.only ho (fun q hq e => by have := HQ3.out q hq; have := HXZ.out; omega), fun q hq => by have := HQ3.out q hq; have := HXZ.out; omega⟩
  refine key _ ?_
  iterate 7 refine only_set ?_ _ _
  exact Only.refl _ w3

set_option maxRecDepth 100000 in
theorem lineOf_no (P : Nat) (v : Value) (l : List En) (t : Int) (w : World) (hl : LineOf w P v l) (hix : ixI (isT t) l = -1) :
    Calls Try.prog 16 #[.pointer (some ⟨P, 0, none⟩), .int .i64 t] w fun e' w' => e' = .returned (.tuple #[reqV default (.slice none 0 0), .bool false]) ∧ Pure w w' := by
  have hp1 := (Only.refl (fun _ => False) w).alloc (.cells #[.int .i64 0, .int .i64 0, .int .i64 0, .int .i64 0, .int .i64 0, .int .i64 0, .slice none 0 0] 28)
  have HL := Lib.hid (fun (w' : World) (hp : Pure w w') => hl.pure hp)
  have P1 := Lib.hid hp1
  have HX := Lib.hid (heap_alloc_new w (.cells #[.int .i64 0, .int .i64 0, .int .i64 0, .int .i64 0, .int .i64 0, .int .i64 0, .slice none 0 0] 28))
  have HIX := Lib.hid hix
  clear hl hp1 hix
  go_enter Try.func16, Try.ntmps16
  go_wp2_with fail
  generalize w.alloc (.cells #[.int .i64 0, .int .i64 0, .int .i64 0, .int .i64 0, .int .i64 0, .int .i64 0, .slice none 0 0] 28) = W1 at *
  refine (of_any P v l t _ (HL.out _ P1.out)).mono ?_
  rw [HIX.out]
  rintro e1 w2 ⟨rfl, hp2⟩
  have P2 := Lib.hid (Pure.then P1.out hp2)
  have hx2 := (hp2.block _ (Array.getElem?_eq_some_iff.1 HX.out).1 (fun f => f)).trans HX.out
  have HX2 := Lib.hid hx2
  clear hp2 hx2
  go_wp2_with fail
  refine (at_no P (-1) _ (by omega)).mono ?_
  rintro e1 w3 ⟨rfl, hp3⟩
  have hx3 := (hp3.block _ (Array.getElem?_eq_some_iff.1 HX2.out).1 (fun f => f)).trans HX2.out
  obtain ⟨x0, x1, x2, x3, x4, x5, x6, xf0, xf1, xf2, xf3, xf4, xf5, xf6⟩ := seven hx3
  have P3 := Lib.hid (P2.out.then hp3)
  clear hp3 hx3
  go_wp2_with fail
  refine bodyPost_ret (v := .tuple #[reqV default (.slice none 0 0), .bool false]) (by simp [results, Try.results16, go_sem, x0, x1, x2, x3, x4, x5, x6, default]) rfl ⟨rfl, ?_⟩
  have key : ∀ wf, Only (fun q => q = w.heap.size) w3 wf → Pure w wf := fun wf ho => P3.out.trans ho (fun i hi e => by omega)
  refine key _ ?_
  iterate 7 refine only_set ?_ _ _
  exact Only.refl _ w3

set_option maxRecDepth 100000 in
theorem lineFirst_in (P : Nat) (v : Value) (l : List En) (k : Nat) (e : En) (w : World) (hl : LineOf w P v l) (he : l[k]? = some e) (hix : ixI isW l = k) :
    Calls Try.prog 11 #[.pointer (some ⟨P, 0, none⟩)] w fun e' w' => ∃ A c, e' = .returned (.tuple #[reqV e (.slice A e.got.length c), .bool true]) ∧ Pure w w' ∧ SlI w' w'.heap.size (.slice A e.got.length c) e.got ∧ ∀ q, (Value.slice A e.got.length c).ownBlock = some q → w.heap.size ≤ q := by
  have HE := Lib.hid he
  clear he
  have hp1 := (Only.refl (fun _ => False) w).alloc (.cells #[.int .i64 0, .int .i64 0, .int .i64 0, .int .i64 0, .int .i64 0, .int .i64 0, .slice none 0 0] 28)
  have HL := Lib.hid (fun (w' : World) (hp : Pure w w') => hl.pure hp)
  have P1 := Lib.hid hp1
  have HX := Lib.hid (heap_alloc_new w (.cells #[.int .i64 0, .int .i64 0, .int .i64 0, .int .i64 0, .int .i64 0, .int .i64 0, .slice none 0 0] 28))
  have HIX := Lib.hid hix
  clear hl hp1 hix
  go_enter Try.func11, Try.ntmps11
  go_wp2_with fail
  generalize w.alloc (.cells #[.int .i64 0, .int .i64 0, .int .i64 0, .int .i64 0, .int .i64 0, .int .i64 0, .slice none 0 0] 28) = W1 at *
  refine (first_any' P v l _ (HL.out _ P1.out)).mono ?_
  rw [HIX.out]
  rintro e1 w2 ⟨rfl, hp2⟩
  have P2 := Lib.hid (Pure.then P1.out hp2)
  have hx2 := (hp2.block _ (Array.getElem?_eq_some_iff.1 HX.out).1 (fun f => f)).trans HX.out
  have HX2 := Lib.hid hx2
  clear hp2 hx2
  go_wp2_with fail
  refine (at_in P v l k e _ (HL.out _ P2.out) HE.out).mono ?_
  rintro e1 w3 ⟨A3, c3, rfl, hp3, hs3, hq3⟩
  have HQ3 := Lib.hid hq3
  have HXZ := Lib.hid (show w.heap.size < w2.heap.size from (Array.getElem?_eq_some_iff.1 HX2.out).1)
  clear hq3
  have hx3 := (hp3.block _ (Array.getElem?_eq_some_iff.1 HX2.out).1 (fun f => f)).trans HX2.out
  obtain ⟨x0, x1, x2, x3, x4, x5, x6, xf0, xf1, xf2, xf3, xf4, xf5, xf6⟩ := seven hx3
  have P3 := Lib.hid (P2.out.then hp3)
  have HS3 := Lib.hid hs3
  clear hp3 hs3 hx3
  go_wp2_with fail
  refine bodyPost_ret (v := .tuple #[reqV e (.slice A3 e.got.length c3), .bool true]) (by simp [results, Try.results11, go_sem, x0, x1, x2, x3, x4, x5, x6]) rfl ⟨A3, c3, rfl, ?_⟩
  have key : ∀ wf, Only (fun q => q = w.heap.size) w3 wf → Pure w wf ∧ SlI wf wf.heap.size (.slice A3 e.got.length c3) e.got ∧ ∀ q, (Value.slice A3 e.got.length c3).ownBlock = some q → w.heap.size ≤ q := fun wf ho =>
    ⟨P3.out.trans ho (fun i hi e => by omega), HS3.out.only ho (fun q hq e => by have := HQ3.out q hq; have := HXZ.out; omega), fun q hq => by have := HQ3.out q hq; have := HXZ.out; omega⟩
  refine key _ ?_
  iterate 7 refine only_set ?_ _ _
  exact Only.refl _ w3

set_option maxRecDepth 100000 in
theorem lineFirst_no (P : Nat) (v : Value) (l : List En) (w : World) (hl : LineOf w P v l) (hix : ixI isW l = -1) :
    Calls Try.prog 11 #[.pointer (some ⟨P, 0, none⟩)] w fun e' w' => e' = .returned (.tuple #[reqV default (.slice none 0 0), .bool false]) ∧ Pure w w' := by
  have hp1 := (Only.refl (fun _ => False) w).alloc (.cells #[.int .i64 0, .int .i64 0, .int .i64 0, .int .i64 0, .int .i64 0, .int .i64 0, .slice none 0 0] 28)
  have HL := Lib.hid (fun (w' : World) (hp : Pure w w') => hl.pure hp)
  have P1 := Lib.hid hp1
  have HX := Lib.hid (heap_alloc_new w (.cells #[.int .i64 0, .int .i64 0, .int .i64 0, .int .i64 0, .int .i64 0, .int .i64 0, .slice none 0 0] 28))
  have HIX := Lib.hid hix
  clear hl hp1 hix
  go_enter Try.func11, Try.ntmps11
  go_wp2_with fail
  generalize w.alloc (.cells #[.int .i64 0, .int .i64 0, .int .i64 0, .int .i64 0, .int .i64 0, .int .i64 0, .slice none 0 0] 28) = W1 at *
  refine (first_any' P v l _ (HL.out _ P1.out)).mono ?_
  rw [HIX.out]
  rintro e1 w2 ⟨rfl, hp2⟩
  have P2 := Lib.hid (Pure.then P1.out hp2)
  have hx2 := (hp2.block _ (Array.getElem?_eq_some_iff.1 HX.out).1 (fun f => f)).trans HX.out
  have HX2 := Lib.hid hx2
  clear hp2 hx2
  go_wp2_with fail
  refine (at_no P (-1) _ (by omega)).mono ?_
  rintro e1 w3 ⟨rfl, hp3⟩
  have hx3 := (hp3.block _ (Array.getElem?_eq_some_iff.1 HX2.out).1 (fun f => f)).trans HX2.out
  obtain ⟨x0, x1, x2, x3, x4, x5, x6, xf0, xf1, xf2, xf3, xf4, xf5, xf6⟩ := seven hx3
  have P3 := Lib.hid (P2.out.then hp3)
  clear hp3 hx3
  go_wp2_with fail
  refine bodyPost_ret (v := .tuple #[reqV default (.slice none 0 0), .bool false]) (by simp [results, Try.results11, go_sem, x0, x1, x2, x3, x4, x5, x6, default]) rfl ⟨rfl, ?_⟩
  have key : ∀ wf, Only (fun q => q = w.heap.size) w3 wf → Pure w wf := fun wf ho => P3.out.trans ho (fun i hi e => by omega)
  refine key _ ?_
  iterate 7 refine only_set ?_ _ _
  exact Only.refl _ w3

end Go.Proofs.Ytmpomkejmokdlaa
