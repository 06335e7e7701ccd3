/-
  Contracts of the document's line: Add.
-/
import Derived.Test.YtmpomkejmokdlaaLnx1
import Derived.Deep.RegionLaw
import Derived.Deep.DeepCutAuto
import Derived.Deep.CutBlock
import Derived.StillTailTactics
namespace Go.Proofs.Ytmpomkejmokdlaa
open Go.RowKit

theorem req_info : (Try.prog.info? 28).map (fun i => (i.zero, i.size, i.bytes)) = some (some (.agg #[.int .i64 0, .int .i64 0, .int .i64 0, .int .i64 0, .int .i64 0, .int .i64 0, .slice none 0 0]), 7, 72) := by kernel_rfl

theorem addx_no (X : Nat) (v n : Value) (l : List En) (nt : List Int) (e : En) (A : Option Addr) (m c : Nat) (w : World) (hl : LnxOf w X v n l nt) (hix : 0 ≤ ixI (isT e.thread) l) :
    Calls Try.prog 22 #[.pointer (some ⟨X, 0, none⟩), reqV e (.slice A m c)] w fun e' w' => e' = .returned (.bool false) ∧ Pure w w' := by
  have hp1 := (Only.refl (fun _ => False) w).alloc (.cells #[.int .i64 e.thread, .int .i64 e.frags, .int .i64 e.spine, .int .i64 e.state, .int .i64 e.cycles, .int .i64 e.at_, .slice A m c] 28)
  have HL := Lib.hid (hl.pure hp1)
  have P1 := Lib.hid hp1
  clear hl hp1
  go_enter Try.func22, Try.ntmps22
  go_wp2_with fail
  refine (find_any X v n l nt e.thread _ HL.out).mono ?_
  generalize ixI (isT e.thread) l = ix at hix
  rintro e1 w2 ⟨rfl, rfl⟩
  go_wp2_with fail
  go_ret
  exact ⟨rfl, P1.out⟩

/-- One request more. -/
theorem LnxOf.added {w w6 : World} {X : Nat} {v v6 n : Value} {l : List En} {nt : List Int} {e : En} {q6 : Nat} (h : LnxOf w X v n l nt) (ho : Only (fun k => v.ownBlock = some k) w w6) (hown : w6.ownsRow 0 28 7 v6 (l.length + 1) (rqs l ++ rqCells (fresh e)))
    (hat : v6.ownBlock = v.ownBlock ∨ v6.ownBlock = some q6) (hq6 : w.heap.size ≤ q6) (hf : l.length ≤ 900) : LnxOf (w6.setCell ⟨X, 0, none⟩ v6) X v6 n (l ++ [fresh e]) nt ∧ Only (LnxS X v n) w (w6.setCell ⟨X, 0, none⟩ v6) := by
  have hX := (Array.getElem?_eq_some_iff.1 h.at_).1
  have at6 : w6.heap[X]? = some (.cells #[v, n] 46 (0, 0)) := (ho.block X hX (fun e' => row_ne h.at_ h.own (by decide) e' rfl)).trans h.at_
  have n6 : w6.ownsRow 0 3 1 n nt.length (ints nt) := ho.own h.nown (fun k hk e => rows_ne h.own h.nown (by decide) e hk)
  have hoS : Only (LnxS X v n) w (w6.setCell ⟨X, 0, none⟩ v6) := (ho.mono (fun _ _ hk => .inr (.inl hk))).setCell (p := ⟨X, 0, none⟩) (fun _ => .inl rfl) v6
  have ho2 : Only (fun q => q = X) w6 (w6.setCell ⟨X, 0, none⟩ v6) := only_set (Only.refl _ w6) 0 v6
  refine ⟨⟨by simp [World.setCell, Array.getElem?_modify, at6], ?_, ho2.own n6 (fun k hk => row_ne at6 n6 (by decide) hk), h.nrng, fun e' he' => ?_, ?_, fun e' he' => ?_⟩, hoS⟩
  · rw [rqs_append, show rqs [fresh e] = rqCells (fresh e) from by simp [rqs], show (l ++ [fresh e]).length = l.length + 1 from by simp]
    exact ho2.own hown (fun k hk => row_ne at6 hown (by decide) hk)
  · rcases List.mem_append.1 he' with he' | he'
    · refine ⟨(h.got e' he').1.only hoS (fun q hq => ((h.got e' he').2 q hq).1), fun q hq => ⟨?_, Nat.lt_of_lt_of_le ((h.got e' he').2 q hq).2 hoS.size⟩⟩
      rintro (rfl | hq' | hq')
      · exact ((h.got e' he').2 _ hq).1 (.inl rfl)
      · rcases hat with hat | hat
        · exact ((h.got e' he').2 _ hq).1 (.inr (.inl (hat ▸ hq')))
        · rw [hat] at hq'
          have := ((h.got e' he').2 _ hq).2
          injection hq' with hq'
          omega
      · exact ((h.got e' he').2 _ hq).1 (.inr (.inr hq'))
    · simp only [List.mem_singleton] at he'
      subst he'
      exact ⟨SlI.nil _ _, fun q hq => by simp [fresh, Value.ownBlock] at hq⟩
  · simp; omega
  · rcases List.mem_append.1 he' with he' | he'
    · exact h.short e' he'
    · simp only [List.mem_singleton] at he'
      subst he'
      simp [fresh]

set_option maxRecDepth 100000 in
set_option maxHeartbeats 16000000 in
theorem addx_yes (X : Nat) (v n : Value) (l : List En) (nt : List Int) (e : En) (A : Option Addr) (m c : Nat) (w : World) (hl : LnxOf w X v n l nt) (hix : ixI (isT e.thread) l = -1) (hf : l.length ≤ 900) :
    Calls Try.prog 22 #[.pointer (some ⟨X, 0, none⟩), reqV e (.slice A m c)] w fun e' w' => ∃ v', e' = .returned (.bool true) ∧ LnxOf w' X v' n (l ++ [fresh e]) nt ∧ Only (LnxS X v n) w w' ∧ (v'.ownBlock = v.ownBlock ∨ ∃ q, v'.ownBlock = some q ∧ w.heap.size ≤ q) := by
  obtain ⟨i0, hi0, hz0, hz1, hz2⟩ := info_parts req_info
  have hp1 := (Only.refl (fun _ => False) w).alloc (.cells #[.int .i64 e.thread, .int .i64 e.frags, .int .i64 e.spine, .int .i64 e.state, .int .i64 e.cycles, .int .i64 e.at_, .slice A m c] 28)
  have hy := heap_alloc_new w (.cells #[.int .i64 e.thread, .int .i64 e.frags, .int .i64 e.spine, .int .i64 e.state, .int .i64 e.cycles, .int .i64 e.at_, .slice A m c] 28)
  have HL := Lib.hid (hl.pure hp1)
  have HY := Lib.hid hy
  have P1 := Lib.hid hp1
  have HIX := Lib.hid hix
  obtain ⟨AV, cV, rfl⟩ := hl.form
  clear hl hp1 hy hix
  go_enter Try.func22, Try.ntmps22
  go_wp2_with fail
  generalize w.alloc (.cells #[.int .i64 e.thread, .int .i64 e.frags, .int .i64 e.spine, .int .i64 e.state, .int .i64 e.cycles, .int .i64 e.at_, .slice A m c] 28) = V at *
  refine (find_any X _ n l nt e.thread _ HL.out).mono ?_
  rw [HIX.out]
  rintro e1 w2 ⟨rfl, rfl⟩
  obtain ⟨y0, y1, y2, _⟩ := seven HY.out
  have xca : V.drew.cell? ⟨X, 0, none⟩ = some (.slice AV l.length cV) := HL.out.c0
  have xcb : V.cell? ⟨X, 0, none⟩ = some (.slice AV l.length cV) := HL.out.c0
  have xcc : (V.alloc (.cells #[.int .i64 e.thread, .int .i64 e.frags, .int .i64 e.spine, .int .i64 0, .int .i64 0, .int .i64 (-1), .slice none 0 0] 28)).cell? ⟨X, 0, none⟩ = some (.slice AV l.length cV) := Pure.keep ((Only.refl (fun _ => False) V).alloc _) (HL.out.c0)
  have xcd : (V.alloc (.cells #[.int .i64 e.thread, .int .i64 e.frags, .int .i64 e.spine, .int .i64 0, .int .i64 0, .int .i64 (-1), .slice none 0 0] 28)).drew.cell? ⟨X, 0, none⟩ = some (.slice AV l.length cV) := xcc
  have xce : (V.drew.alloc (.cells #[.int .i64 e.thread, .int .i64 e.frags, .int .i64 e.spine, .int .i64 0, .int .i64 0, .int .i64 (-1), .slice none 0 0] 28)).cell? ⟨X, 0, none⟩ = some (.slice AV l.length cV) := xcc
  have yaa : V.drew.cell? ⟨w.heap.size, 0, none⟩ = some (.int .i64 e.thread) := y0
  have yab : V.cell? ⟨w.heap.size, 0, none⟩ = some (.int .i64 e.thread) := y0
  have yac : (V.alloc (.cells #[.int .i64 e.thread, .int .i64 e.frags, .int .i64 e.spine, .int .i64 0, .int .i64 0, .int .i64 (-1), .slice none 0 0] 28)).cell? ⟨w.heap.size, 0, none⟩ = some (.int .i64 e.thread) := Pure.keep ((Only.refl (fun _ => False) V).alloc _) (y0)
  have yad : (V.alloc (.cells #[.int .i64 e.thread, .int .i64 e.frags, .int .i64 e.spine, .int .i64 0, .int .i64 0, .int .i64 (-1), .slice none 0 0] 28)).drew.cell? ⟨w.heap.size, 0, none⟩ = some (.int .i64 e.thread) := yac
  have yae : (V.drew.alloc (.cells #[.int .i64 e.thread, .int .i64 e.frags, .int .i64 e.spine, .int .i64 0, .int .i64 0, .int .i64 (-1), .slice none 0 0] 28)).cell? ⟨w.heap.size, 0, none⟩ = some (.int .i64 e.thread) := yac
  have yba : V.drew.cell? ⟨w.heap.size, 1, none⟩ = some (.int .i64 e.frags) := y1
  have ybb : V.cell? ⟨w.heap.size, 1, none⟩ = some (.int .i64 e.frags) := y1
  have ybc : (V.alloc (.cells #[.int .i64 e.thread, .int .i64 e.frags, .int .i64 e.spine, .int .i64 0, .int .i64 0, .int .i64 (-1), .slice none 0 0] 28)).cell? ⟨w.heap.size, 1, none⟩ = some (.int .i64 e.frags) := Pure.keep ((Only.refl (fun _ => False) V).alloc _) (y1)
  have ybd : (V.alloc (.cells #[.int .i64 e.thread, .int .i64 e.frags, .int .i64 e.spine, .int .i64 0, .int .i64 0, .int .i64 (-1), .slice none 0 0] 28)).drew.cell? ⟨w.heap.size, 1, none⟩ = some (.int .i64 e.frags) := ybc
  have ybe : (V.drew.alloc (.cells #[.int .i64 e.thread, .int .i64 e.frags, .int .i64 e.spine, .int .i64 0, .int .i64 0, .int .i64 (-1), .slice none 0 0] 28)).cell? ⟨w.heap.size, 1, none⟩ = some (.int .i64 e.frags) := ybc
  have yca : V.drew.cell? ⟨w.heap.size, 2, none⟩ = some (.int .i64 e.spine) := y2
  have ycb : V.cell? ⟨w.heap.size, 2, none⟩ = some (.int .i64 e.spine) := y2
  have ycc : (V.alloc (.cells #[.int .i64 e.thread, .int .i64 e.frags, .int .i64 e.spine, .int .i64 0, .int .i64 0, .int .i64 (-1), .slice none 0 0] 28)).cell? ⟨w.heap.size, 2, none⟩ = some (.int .i64 e.spine) := Pure.keep ((Only.refl (fun _ => False) V).alloc _) (y2)
  have ycd : (V.alloc (.cells #[.int .i64 e.thread, .int .i64 e.frags, .int .i64 e.spine, .int .i64 0, .int .i64 0, .int .i64 (-1), .slice none 0 0] 28)).drew.cell? ⟨w.heap.size, 2, none⟩ = some (.int .i64 e.spine) := ycc
  have yce : (V.drew.alloc (.cells #[.int .i64 e.thread, .int .i64 e.frags, .int .i64 e.spine, .int .i64 0, .int .i64 0, .int .i64 (-1), .slice none 0 0] 28)).cell? ⟨w.heap.size, 2, none⟩ = some (.int .i64 e.spine) := ycc
  have HX3 := Lib.hid HL.out.at_
  have HSZ := Lib.hid (show w.heap.size ≤ V.heap.size from P1.out.size)
  have HOW := Lib.hid HL.out.own
  clear y0 y1 y2
  go_upto_region 3 with fail
  go_cut [4] (fun _ wx => ∃ v', LnxOf wx X v' n (l ++ [fresh e]) nt ∧ Only (LnxS X (.slice AV l.length cV) n) V wx ∧ (v'.ownBlock = (Value.slice AV l.length cV).ownBlock ∨ ∃ q, v'.ownBlock = some q ∧ V.heap.size ≤ q))
  case first =>
    go_region_law ((first | (refine step_app rfl (.tmp 14) (.tmp 22) _ rfl 0 28 i0 _ 7 72 Try.underlying44 hi0 hz0 hz1 hz2 rfl (by omega) (.slice AV l.length cV) l.length (rqs l) rfl (World.ownsRow.alloc (w := V.drew) HOW.out _) _ 1 1 (rqCells (fresh e)) rfl (Src.row V.drew _ #[.int .i64 e.thread, .int .i64 e.frags, .int .i64 e.spine, .int .i64 0, .int .i64 0, .int .i64 (-1), .slice none 0 0] 7 1 _ rfl rfl) (by simp [rqCells, fresh, Value.oneCell']) (by simp only [maxLen]; omega) (by omega) (by omega) ?_; intro v6 w6 hown6 hg6 hat6; obtain ⟨A6, c6, rfl⟩ := own_form hown6; have HO6 := Lib.hid (Only.grown (S := fun k => (Value.slice AV l.length cV).ownBlock = some k) ((show Only _ V V.drew from ⟨rfl, rfl, rfl, Nat.le_refl _, fun _ _ _ => rfl⟩).alloc _) hg6 (fun k _ e => e)); have at6 := (HO6.out.block X (Array.getElem?_eq_some_iff.1 HX3.out).1 (fun e' => row_ne HX3.out HOW.out (by decide) e' rfl)).trans HX3.out; have s6 := cell_of_row w6 X 0 _ _ _ at6; have s6f := frozen_of_row w6 X 0 _ _ at6; have D6 := Lib.hid (HL.out.added (e := e) HO6.out hown6 hat6 (by simp) hf); have HAT6 := Lib.hid hat6; clear hat6 hown6 hg6 at6)))
    all_goals
      go_wp2_with fail
      go_meet
      exact ⟨_, D6.out.1, D6.out.2, HAT6.out.imp id (fun h => ⟨_, h, by simp⟩)⟩
  case rest =>
    obtain ⟨v', h1, h2, h3⟩ := hcut
    go_wp2_with fail
    go_ret
    refine ⟨v', rfl, h1, (P1.out.mono (fun _ _ f => f.elim)).trans h2 (fun _ _ h => h), h3.imp id (fun ⟨q, h4, h5⟩ => ⟨q, h4, Nat.le_trans HSZ.out h5⟩)⟩


end Go.Proofs.Ytmpomkejmokdlaa
