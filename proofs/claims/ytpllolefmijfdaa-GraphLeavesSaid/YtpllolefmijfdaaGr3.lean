/-
  The contracts of the plain graph's small functions.
-/
import Derived.Test.YtpllolefmijfdaaGr2
import Derived.Test.YtpllolefmijfdaaGWord
namespace Go.Proofs.Ytpllolefmijfdaa
open Go.RowKit

@[go_sem] theorem run_store_cx {P : Program} {w : World} (a : Addr) (x y : Nat) (m : Mode) : (store a (.complex .f64 x y) m).run P w = stored P w a (.complex .f64 x y) m := run_store P w a _ m rfl

def noneVl : Vl := ⟨true, 0, 4607182418800017408⟩
def refVl (i : Nat) : Vl := ⟨true, floatOfInt .f64 ((i : Int) + 1), 4607182418800017408⟩
def numVl (n : Int) : Vl := ⟨false, floatOfInt .f64 n, 0⟩
def zeroVl : Vl := ⟨false, 0, 0⟩

/-- A place of one value that the call has made, read. -/
theorem none_val (w : World) : Calls Try.prog 22 #[] w fun e w' => e = .returned (vlV noneVl) ∧ Pure w w' := by
  go_enter Try.func22, Try.ntmps22
  go_wp2_with fail
  refine (none_any _).mono ?_
  rintro e w' ⟨rfl, rfl⟩
  go_wp2_with fail
  exact bodyPost_ret (v := vlV noneVl) (by simp [results, Try.results22, go_sem, noneVl]) rfl ⟨rfl, (Only.refl _ _).alloc _⟩

theorem whole_val (n : Int) (w : World) (h0 : -9007199254740992 ≤ n) (h1 : n ≤ 9007199254740992) : Calls Try.prog 53 #[.int .i64 n] w fun e w' => e = .returned (vlV (numVl n)) ∧ Pure w w' := by
  go_enter Try.func53, Try.ntmps53
  go_wp2_with fail
  refine (whole_in n _ h0 h1).mono ?_
  rintro e w' ⟨rfl, rfl⟩
  go_wp2_with fail
  exact bodyPost_ret (v := vlV (numVl n)) (by simp [results, Try.results53, go_sem, numVl]) rfl ⟨rfl, (Only.refl _ _).alloc _⟩

/-- Is a field, an element, a reference? -/
def refB (t : Th) (k : Nat) : Option Bool := if t.a then t.rs[0]? else t.rs[k]?

theorem ThR.cells {w : World} {κ : Nat → Option Cl} {i p : Nat} {t : Th} (h : ThR w κ i p t) : ∃ (A : Option Addr) (cr q : Nat),
    w.cell? ⟨p, 0, none⟩ = some (.int .i64 t.kind) ∧ w.cell? ⟨p, 1, none⟩ = some (.int .i64 t.n) ∧ w.cell? ⟨p, 2, none⟩ = some (.bool t.a) ∧ w.cell? ⟨p, 3, none⟩ = some (.slice A t.rs.length cr) ∧
    w.cell? ⟨p, 4, none⟩ = some (.slice (some ⟨q, 0, none⟩) t.l.length t.l.length) ∧ SlG w w.heap.size (.slice A t.rs.length cr) (bools t.rs) ∧ w.heap[q]? = some (.cells (fcs t.l).toArray 32 (0, 0)) := by
  obtain ⟨A, cr, q, b1, _, b3, _, b5, _⟩ := h
  refine ⟨A, cr, q, ?_, ?_, ?_, ?_, ?_, b5, b3⟩ <;> (rw [cell_of_row w p _ _ _ _ b1]; rfl)

theorem SlG.at {w : World} {B : Nat} {A : Option Addr} {m c : Nat} {vs : List Value} {j : Nat} {u : Value} (h : SlG w B (.slice A m c) vs) (hj : vs[j]? = some u) : ∃ b off, A = some ⟨b, off, none⟩ ∧ w.cell? ⟨b, off + j, none⟩ = some u := by
  obtain ⟨A', c', e, h1, h2, h4⟩ := h
  injection e with e1 e2 e3
  subst e1
  have := (List.getElem?_eq_some_iff.1 hj).1
  obtain ⟨b, off, e, _, hc⟩ := h4 (by omega)
  exact ⟨b, off, e, hc j u hj⟩
theorem bools_at {bs : List Bool} {j : Nat} {b : Bool} (h : bs[j]? = some b) : (bools bs)[j]? = some (.bool b) := by simp [bools, h]

theorem ref_any {w : World} {κ : Nat → Option Cl} {i p : Nat} {t : Th} (h : ThR w κ i p t) (k : Nat) (b : Bool) (hb : refB t k = some b) (hl : t.rs.length ≤ 1000000) :
    Calls Try.prog 25 #[.pointer (some ⟨p, 0, none⟩), .int .i64 k] w fun e w' => e = .returned (.bool b) ∧ w = w' := by
  obtain ⟨A, cr, q, c0, c1, c2, c3, c4, c5, c6⟩ := h.cells
  obtain ⟨ki, n, a, rs, l⟩ := t
  unfold refB at hb
  dsimp only at *
  clear h c6
  cases a
  · simp only [Bool.false_eq_true, if_false] at hb
    obtain ⟨bb, off, rfl, hc⟩ := c5.at (bools_at hb)
    have hlt := (List.getElem?_eq_some_iff.1 hb).1
    clear hb c5
    go_enter Try.func25, Try.ntmps25
    go_wp2_with fail
    go_ret
    exact ⟨rfl, rfl⟩
  · simp only [if_true] at hb
    obtain ⟨bb, off, rfl, hc⟩ := c5.at (bools_at hb)
    have hlt := (List.getElem?_eq_some_iff.1 hb).1
    have hc' : w.cell? ⟨bb, off, none⟩ = some (.bool b) := hc
    clear hb c5 hc
    go_enter Try.func25, Try.ntmps25
    go_wp2_with fail
    go_ret
    exact ⟨rfl, rfl⟩

/-- A field that is there. -/
theorem place_ok {w : World} {κ : Nat → Option Cl} {i p : Nat} {t : Th} (h : ThR w κ i p t) (k : Nat) (hk : k < t.l.length) :
    Calls Try.prog 64 #[.pointer (some ⟨p, 0, none⟩), .int .i64 k, .bool t.a] w fun e w' => e = .returned (.int .i64 0) ∧ w = w' := by
  obtain ⟨A, cr, q, c0, c1, c2, c3, c4, c5, c6⟩ := h.cells
  obtain ⟨_, _, _, _, _, _, _, _, _, hl⟩ := h
  obtain ⟨ki, n, a, rs, l⟩ := t
  dsimp only at *
  have h0 : (0 : Int) ≤ k := by omega
  clear c6 c5
  cases a
  all_goals
    go_enter Try.func64, Try.ntmps64
    go_wp2_with fail
    go_ret
    exact ⟨rfl, rfl⟩

theorem index_ref (i : Nat) (w : World) (hi : i ≤ 1000000) : Calls Try.prog 24 #[.complex .f64 (floatOfInt .f64 ((i : Int) + 1)) 4607182418800017408] w fun e w' => e = .returned (.tuple #[.int .i64 i, .bool true]) ∧ w = w' := by
  have := index_yes ((i : Int) + 1) w (by omega) (by omega)
  rwa [show (i : Int) + 1 - 1 = i from by omega] at this
theorem f_zero : floatOfInt .f64 0 = 0 := by decide +kernel
theorem index_none (w : World) : Calls Try.prog 24 #[.complex .f64 0 4607182418800017408] w fun e w' => e = .returned (.tuple #[.int .i64 0, .bool false]) ∧ w = w' := by
  refine index_no 0 4607182418800017408 0 true w (fun w => ?_) (.inr (by omega))
  have := int_whole 0 w (by decide)
  rwa [f_zero] at this

section
variable {w : World} {κ : Nat → Option Cl} {G : Nat} {st : GS} {y : Ly}
/-- The cells of the graph's block. -/
theorem GRL.cells (h : GRL w κ G st y) :
    w.cell? ⟨G, 0, none⟩ = some (.int .i64 st.c.frags) ∧ w.cell? ⟨G, 1, none⟩ = some (.int .i64 st.c.spine) ∧ w.cell? ⟨G, 2, none⟩ = some (.int .i64 st.c.globals) ∧ w.cell? ⟨G, 3, none⟩ = some (.int .i64 st.c.threads) ∧
    w.cell? ⟨G, 4, none⟩ = some (.int .i64 st.c.locals) ∧ w.cell? ⟨G, 5, none⟩ = some (.int .i64 st.c.cache) ∧ w.cell? ⟨G, 6, none⟩ = some (.int .i64 st.c.stack) ∧ w.cell? ⟨G, 7, none⟩ = some (.int .i64 st.c.low) ∧
    w.cell? ⟨G, 8, none⟩ = some (.slice y.A y.m.length y.cc) := by
  refine ⟨?_, ?_, ?_, ?_, ?_, ?_, ?_, ?_, ?_⟩ <;> (rw [cell_of_row w G _ _ _ _ h.blk]; rfl)
theorem GRL.c9 (h : GRL w κ G st y) : w.cell? ⟨G, 9, none⟩ = some (.slice y.B st.th.length y.lc) := by rw [cell_of_row w G _ _ _ _ h.blk]; rfl
theorem GRL.c10 (h : GRL w κ G st y) : w.cell? ⟨G, 10, none⟩ = some (.map (some y.M)) := by rw [cell_of_row w G _ _ _ _ h.blk]; rfl
theorem GRL.c11 (h : GRL w κ G st y) : w.cell? ⟨G, 11, none⟩ = some (.slice y.E st.glo.length y.ec) := by rw [cell_of_row w G _ _ _ _ h.blk]; rfl
theorem GRL.fro (h : GRL w κ G st y) (i : Nat) : w.frozen? ⟨G, i, none⟩ = false := frozen_of_row w G i _ _ h.blk
/-- What the shapes of a configuration that may be are like. -/
theorem checkI_may {c : Cn} {l : List Sh} (h : checkI c l = 0) {s : Sh} (hs : s ∈ l) : mayB s.a s.bs.length = true := by
  unfold checkI at h
  split at h
  · simp at h
  · split at h
    · simp at h
    · split at h
      · simp at h
      · rename_i h3
        have h3 : (withinB l.length 1 8 && mayAll l) = true := by simpa using h3
        rw [Bool.and_eq_true] at h3
        exact List.all_eq_true.1 h3.2 s hs
theorem GRL.shLen (h : GRL w κ G st y) {s : Sh} (hs : s ∈ y.m) : s.bs.length ≤ 1000000 := by
  have := mayB_le (checkI_may h.ok hs)
  omega
/-- The pointer to a thing. -/
theorem GRL.pt (h : GRL w κ G st y) {i p : Nat} (hp : y.ps[i]? = some p) : i < st.th.length ∧ ∃ b, y.B = some ⟨b, 0, none⟩ ∧ w.cell? ⟨b, i, none⟩ = some (.pointer (some ⟨p, 0, none⟩)) := by
  have hlt : i < st.th.length := by rw [← h.psLen]; exact (List.getElem?_eq_some_iff.1 hp).1
  obtain ⟨g, cap, e, _⟩ := h.row.form (by omega)
  injection e with e1 e2 e3
  have hr := h.row
  rw [e1] at hr
  exact ⟨hlt, g, e1, by rw [hr.cellAt i (by simpa using hlt), List.getElem?_map, hp]; rfl⟩
theorem GRL.thOf (h : GRL w κ G st y) {i : Nat} {t : Th} (ht : st.th[i]? = some t) : ∃ p, y.ps[i]? = some p ∧ ThR w κ i p t := h.ths i t ht
theorem GRL.local (h : GRL w κ G st y) {l : List Vl} (hl : st.loc = some l) : w.heap[y.lb]? = some (.cells (vcs l).toArray 34 (0, 0)) ∧ l.length ≤ 1000000 ∧ ∃ clock born, w.heap[y.M]? = some (.map #[⟨.int .i64 0, .slice (some ⟨y.lb, 0, none⟩) l.length l.length, born⟩] clock) := by
  have := h.map
  rw [hl] at this
  exact ⟨this.2.1, this.2.2.2, this.1.imp fun _ h => h.imp fun _ h => h.2⟩
theorem GRL.local' (h : GRL w κ G st y) {l : List Vl} (hl : st.loc = some l) : ∃ clock born, born < clock ∧ w.heap[y.M]? = some (.map #[⟨.int .i64 0, .slice (some ⟨y.lb, 0, none⟩) l.length l.length, born⟩] clock) := by
  have := h.map
  rw [hl] at this
  exact this.1
end
/-- A value in a row of values. -/
theorem vcell {w : World} {b j : Nat} {l : List Vl} {v : Vl} {T : TypeId} (h : w.heap[b]? = some (.cells (vcs l).toArray T (0, 0))) (hj : l[j]? = some v) :
    w.cell? ⟨b, j * 2, none⟩ = some (.bool v.r) ∧ w.cell? ⟨b, j * 2 + 1, none⟩ = some (.complex .f64 v.x v.y) ∧ w.frozen? ⟨b, j * 2, none⟩ = false ∧ w.frozen? ⟨b, j * 2 + 1, none⟩ = false := by
  have := vcs_get l j v hj
  refine ⟨?_, ?_, frozen_of_row w b _ _ _ h, frozen_of_row w b _ _ _ h⟩
  · rw [cell_of_row w b _ _ _ _ h, List.getElem?_toArray]; exact this.1
  · rw [cell_of_row w b _ _ _ _ h, List.getElem?_toArray]; exact this.2

theorem thing_any {w : World} {κ : Nat → Option Cl} {G : Nat} {st : GS} {y : Ly} (h : GRL w κ G st y) (i p : Nat) (hp : y.ps[i]? = some p) (hi : st.th.length ≤ 1000000) :
    Calls Try.prog 63 #[.pointer (some ⟨G, 0, none⟩), vlV (refVl i)] w fun e w' => e = .returned (.pointer (some ⟨p, 0, none⟩)) ∧ Pure w w' := by
  have hp1 := (Only.refl (fun _ => False) w).alloc (.cells #[.bool true, .complex .f64 (floatOfInt .f64 ((i : Int) + 1)) 4607182418800017408] 34)
  have h1 := h.pure hp1
  have c9 := h1.c9
  obtain ⟨hlt, b, hB, cb⟩ := h1.pt hp
  rw [hB] at c9
  have P1 := Lib.hid hp1
  clear hp1 h1 h hB
  unfold refVl
  go_enter Try.func63, Try.ntmps63
  go_wp2_with fail
  refine (index_ref i _ (by omega)).mono ?_
  rintro e w' ⟨rfl, rfl⟩
  go_wp2_with fail
  go_ret
  exact ⟨rfl, P1.out⟩

def ansB (k : Int) : Bool := !(k == 4 || k == 6 || k == 8 || k == 17 || k == 18)
theorem answers_in (k : Nat) (hk : k < 19) (w : World) : Calls Try.prog 35 #[.int .i64 k] w fun e w' => e = .returned (.bool (ansB k)) ∧ w = w' := by
  rcases (by omega : k = 0 ∨ k = 1 ∨ k = 2 ∨ k = 3 ∨ k = 4 ∨ k = 5 ∨ k = 6 ∨ k = 7 ∨ k = 8 ∨ k = 9 ∨ k = 10 ∨ k = 11 ∨ k = 12 ∨ k = 13 ∨ k = 14 ∨ k = 15 ∨ k = 16 ∨ k = 17 ∨ k = 18) with rfl | rfl | rfl | rfl | rfl | rfl | rfl | rfl | rfl | rfl | rfl | rfl | rfl | rfl | rfl | rfl | rfl | rfl | rfl
  all_goals
    go_enter Try.func35, Try.ntmps35
    go_wp2_with fail
    go_ret
    exact ⟨rfl, rfl⟩

end Go.Proofs.Ytpllolefmijfdaa
