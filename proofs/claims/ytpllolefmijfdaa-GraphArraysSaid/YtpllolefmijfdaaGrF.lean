/-
  The contract of one: a thread alone, its operations one behind the other.
-/
import Derived.Test.YtpllolefmijfdaaGrE
namespace Go.Proofs.Ytpllolefmijfdaa
open Go.RowKit

/-- An operation of the thread 0, wherever the graph lies: what it returns, what the graph is then. -/
def Stp (st : GS) (o : Op20) (v : Vl) (er : Int) (st' : GS) : Prop :=
  ∀ (w : World) (κ : Nat → Option Cl) (G : Nat) (y : Ly), GRL w κ G st y →
    Calls Try.prog 19 #[.pointer (some ⟨G, 0, none⟩), .int .i64 0, opV o, .bool false] w fun e w' => e = .returned (.tuple #[vlV v, .int .i64 er]) ∧ GNew w κ G st' y.lb w'
inductive Runs : GS → Vl → Int → List Op20 → Vl → Int → GS → Prop
  | nil {st : GS} {v : Vl} {e : Int} : Runs st v e [] v e st
  | cons {st st1 st2 : GS} {v v1 v2 : Vl} {e e1 e2 : Int} {o : Op20} {l : List Op20} : Stp st o v1 e1 st1 → Runs st1 v1 e1 l v2 e2 st2 → Runs st v e (o :: l) v2 e2 st2

/-- Operations as cells. -/
def ocs (l : List Op20) : List Value := l.flatMap fun o => [.int .i64 o.kind, .int .i64 o.a, .int .i64 o.b, .int .i64 o.c, .int .i64 o.n, .complex .f64 o.x o.y]
theorem ocs_get (l : List Op20) (j : Nat) (o : Op20) (h : l[j]? = some o) : (ocs l)[j * 6]? = some (.int .i64 o.kind) ∧ (ocs l)[j * 6 + 1]? = some (.int .i64 o.a) ∧ (ocs l)[j * 6 + 2]? = some (.int .i64 o.b) ∧ (ocs l)[j * 6 + 3]? = some (.int .i64 o.c) ∧ (ocs l)[j * 6 + 4]? = some (.int .i64 o.n) ∧ (ocs l)[j * 6 + 5]? = some (.complex .f64 o.x o.y) := by
  induction l generalizing j with
  | nil => simp at h
  | cons t l ih =>
    cases j with
    | zero => simp at h; subst h; exact ⟨rfl, rfl, rfl, rfl, rfl, rfl⟩
    | succ j =>
      have := ih j (by simpa using h)
      rw [show (j + 1) * 6 = j * 6 + 6 from by omega, show j * 6 + 6 + 1 = j * 6 + 1 + 6 from by omega, show j * 6 + 6 + 2 = j * 6 + 2 + 6 from by omega, show j * 6 + 6 + 3 = j * 6 + 3 + 6 from by omega, show j * 6 + 6 + 4 = j * 6 + 4 + 6 from by omega, show j * 6 + 6 + 5 = j * 6 + 5 + 6 from by omega]
      exact this
theorem ocell {w : World} {b j : Nat} {l : List Op20} {o : Op20} {T : TypeId} (h : w.heap[b]? = some (.cells (ocs l).toArray T (0, 0))) (hj : l[j]? = some o) :
    w.cell? ⟨b, j * 6, none⟩ = some (.int .i64 o.kind) ∧ w.cell? ⟨b, j * 6 + 1, none⟩ = some (.int .i64 o.a) ∧ w.cell? ⟨b, j * 6 + 2, none⟩ = some (.int .i64 o.b) ∧ w.cell? ⟨b, j * 6 + 3, none⟩ = some (.int .i64 o.c) ∧ w.cell? ⟨b, j * 6 + 4, none⟩ = some (.int .i64 o.n) ∧ w.cell? ⟨b, j * 6 + 5, none⟩ = some (.complex .f64 o.x o.y) := by
  have := ocs_get l j o hj
  obtain ⟨a0, a1, a2, a3, a4, a5⟩ := this
  exact ⟨by rw [cell_of_row w b _ _ _ _ h, List.getElem?_toArray]; exact a0, by rw [cell_of_row w b _ _ _ _ h, List.getElem?_toArray]; exact a1, by rw [cell_of_row w b _ _ _ _ h, List.getElem?_toArray]; exact a2, by rw [cell_of_row w b _ _ _ _ h, List.getElem?_toArray]; exact a3, by rw [cell_of_row w b _ _ _ _ h, List.getElem?_toArray]; exact a4, by rw [cell_of_row w b _ _ _ _ h, List.getElem?_toArray]; exact a5⟩

/-- While one works. -/
structure OneR (w : World) (κ : Nat → Option Cl) (G lb S : Nat) (st : GS) (v : Vl) (wr : World) (κ' : Nat → Option Cl) (y' : Ly) : Prop where
  gr : GRL wr κ' G st y'
  lb : y'.lb = lb
  only : Only (fun q => κ q ≠ none) w wr
  same : ∀ q, q < S → κ' q = κ q
  sz : S ≤ wr.heap.size
  b4 : wr.heap[w.heap.size]? = some (.cells #[.bool false, .complex .f64 0 0] 34 (0, 0))
  b6 : wr.heap[w.heap.size + 1]? = some (.cells #[.bool v.r, .complex .f64 v.x v.y] 34 (0, 0))

section
variable {w : World} {κ : Nat → Option Cl} {G lb : Nat} {st : GS} {y : Ly}
theorem OneR.start (h : GRL w κ G st y) : OneR w κ G y.lb (w.heap.size + 2) st zeroVl ((w.alloc (.cells #[.bool false, .complex .f64 0 0] 34)).alloc (.cells #[.bool false, .complex .f64 0 0] 34)) κ y := by
  have hp := ((Only.refl (fun _ => False) w).alloc (.cells #[.bool false, .complex .f64 0 0] 34)).alloc (.cells #[.bool false, .complex .f64 0 0] 34)
  have s1 : (w.alloc (.cells #[.bool false, .complex .f64 0 0] 34)).heap.size = w.heap.size + 1 := by simp
  have a1 := Pure.blk ((Only.refl (fun _ => False) _).alloc (.cells #[.bool false, .complex .f64 0 0] 34)) (heap_alloc_new w (.cells #[.bool false, .complex .f64 0 0] 34))
  have a2 := heap_alloc_new (w.alloc (.cells #[.bool false, .complex .f64 0 0] 34)) (.cells #[.bool false, .complex .f64 0 0] 34)
  rw [s1] at a2
  exact ⟨h.pure hp, rfl, hp.mono (fun _ _ f => f.elim), fun _ _ => rfl, by simp, a1, a2⟩
/-- Behind an operation. -/
theorem OneR.step {st1 : GS} {v v1 : Vl} {wr w1 : World} {κ' : Nat → Option Cl} {y' : Ly} (hd : ∀ k, κ k ≠ none → k < w.heap.size) (h : OneR w κ G lb (w.heap.size + 2) st v wr κ' y') (hg : GNew wr κ' G st1 y'.lb w1) :
    ∃ κ1 y1, OneR w κ G lb (w.heap.size + 2) st1 v w1 κ1 y1 ∧ OneR w κ G lb (w.heap.size + 2) st1 v1 ((w1.setCell ⟨w.heap.size + 1, 0, none⟩ (.bool v1.r)).setCell ⟨w.heap.size + 1, 1, none⟩ (.complex .f64 v1.x v1.y)) κ1 y1 := by
  obtain ⟨κ1, y1, g1, g2, g3, g4⟩ := hg
  have hsz := h.sz
  have k4 : κ' w.heap.size = none := by rw [h.same _ (by omega)]; exact Classical.byContradiction fun hn => by have := hd _ hn; omega
  have k6 : κ' (w.heap.size + 1) = none := by rw [h.same _ (by omega)]; exact Classical.byContradiction fun hn => by have := hd _ hn; omega
  have hsame : ∀ q, q < w.heap.size + 2 → κ1 q = κ q := fun q hq => (g4 q (by omega)).trans (h.same q hq)
  have b4 := g3.blk h.b4 (fun e => e k4)
  have b6 := g3.blk h.b6 (fun e => e k6)
  have ho : Only (fun q => κ q ≠ none) w w1 := h.only.trans g3 (fun q hq e => by rw [← h.same q (by omega)]; exact e)
  refine ⟨κ1, y1, ⟨g1, g2.trans h.lb, ho, hsame, Nat.le_trans hsz g3.size, b4, b6⟩, ?_⟩
  have hs := set2 w1 (w.heap.size + 1) (.bool v1.r) (.complex .f64 v1.x v1.y)
  refine ⟨g1.only hs (fun k hk e => by subst e; rw [hsame _ (by omega)] at hk; have := hd _ hk; omega), g2.trans h.lb, ho.trans hs (fun q hq e => by omega), hsame, Nat.le_trans (Nat.le_trans hsz g3.size) hs.size, hs.blk b4 (by omega), ?_⟩
  simp [World.setCell, Array.getElem?_modify, b6]
end

set_option maxRecDepth 100000 in
set_option maxHeartbeats 4000000 in
theorem one_any {w : World} {κ : Nat → Option Cl} {G : Nat} {st : GS} {y : Ly} (h : GRL w κ G st y) (ops : List Op20) (b : Nat) (hb : w.heap[b]? = some (.cells (ocs ops).toArray 38 (0, 0))) (hk : κ b = none) (vf : Vl) (ef : Int) (stf : GS) (hrun : Runs st zeroVl 0 ops vf ef stf) (hlen : ops.length ≤ 1000) :
    Calls Try.prog 10 #[.pointer (some ⟨G, 0, none⟩), .slice (some ⟨b, 0, none⟩) ops.length ops.length] w fun e w' => e = .returned (.tuple #[vlV vf, .int .i64 ef]) ∧ GNew w κ G stf y.lb w' := by
  have HS := Lib.hid (OneR.start h)
  have HD := Lib.hid h.dom
  have HB := Lib.hid hb
  have HK := Lib.hid hk
  have HR := Lib.hid hrun
  clear h hb hk hrun
  go_enter Try.func10, Try.ntmps10
  go_wp2_with fail
  generalize (w.alloc (.cells #[.bool false, .complex .f64 0 0] 34)).alloc (.cells #[.bool false, .complex .f64 0 0] 34) = w2 at *
  go_loopw [7, 8] (fun e i wr => ∃ (k : Nat) (ek : Int) (v : Vl) (stk : GS) (κ' : Nat → Option Cl) (y' : Ly), k ≤ ops.length ∧ i = .int .i64 k ∧ e = .int .i64 ek ∧ OneR w κ G y.lb (w.heap.size + 2) stk v wr κ' y' ∧ Runs stk v ek (ops.drop k) vf ef stf) (fun _ i _ => ops.length - (intOf i).toNat)
  case atStart => exact ⟨0, 0, zeroVl, st, κ, y, Nat.zero_le _, rfl, rfl, HS.out, HR.out⟩
  case round =>
    clear HS HR
    obtain ⟨k, ek, v, stk, κ', y', hkl, rfl, rfl, hR, hrun⟩ := hrel
    have R := Lib.hid hR
    have RUN := Lib.hid hrun
    obtain ⟨r0, r1, r2, r3⟩ := val2 hR.b6
    clear hR hrun
    by_cases hlt : k < ops.length
    · obtain ⟨o, ho⟩ : ∃ o, ops[k]? = some o := ⟨_, List.getElem?_eq_getElem hlt⟩
      have hdrop : ops.drop k = o :: ops.drop (k + 1) := by
        have := List.drop_eq_getElem_cons hlt
        rw [List.getElem?_eq_getElem hlt] at ho
        injection ho with ho
        rw [this, ho]
      obtain ⟨v1, e1, st1, hstp, hrun1⟩ : ∃ v1 e1 st1, Stp stk o v1 e1 st1 ∧ Runs st1 v1 e1 (ops.drop (k + 1)) vf ef stf := by
        have := RUN.out
        rw [hdrop] at this
        cases this with
        | cons a b => exact ⟨_, _, _, a, b⟩
      have hbr := R.out.only.blk HB.out (fun e => e HK.out)
      obtain ⟨o0, o1, o2, o3, o4, o5⟩ := ocell hbr ho
      have HST := Lib.hid (hstp wr κ' G y' R.out.gr)
      have HRN := Lib.hid hrun1
      clear hdrop ho hstp hrun1 hbr RUN r0 r1 r2 r3
      go_wp2_with fail
      refine HST.out.mono ?_
      rintro e w3 ⟨rfl, hg⟩
      obtain ⟨κ1, y1, h1, h2⟩ := R.out.step (v1 := v1) HD.out hg
      obtain ⟨r0, r1, r2, r3⟩ := val2 h1.b6
      have R2 := Lib.hid h2
      clear hg h1 h2 o0 o1 o2 o3 o4 o5
      go_wp2_with fail
      go_roundw
      case rel => exact ⟨k + 1, e1, v1, st1, κ1, y1, by omega, by go_num, rfl, R2.out, HRN.out⟩
      case measure => simp [intOf]; omega
    · obtain rfl : k = ops.length := by omega
      obtain ⟨rfl, rfl, rfl⟩ : v = vf ∧ ek = ef ∧ stk = stf := by
        have := RUN.out
        rw [List.drop_length] at this
        cases this
        exact ⟨rfl, rfl, rfl⟩
      obtain ⟨s0, s1, s2, s3⟩ := val2 R.out.b4
      have hn1 : ¬ w.heap.size + 1 = w.heap.size := by omega
      have hn2 : ¬ w.heap.size = w.heap.size + 1 := by omega
      go_wp2_with fail
      refine bodyPost_ret (v := .tuple #[vlV v, .int .i64 ek]) (by simp [results, Try.results10, go_sem, s0, s1]) rfl ⟨rfl, ?_⟩
      have hs := set2 wr w.heap.size (.bool v.r) (.complex .f64 v.x v.y)
      have hsz := R.out.sz
      exact ⟨κ', y', R.out.gr.only hs (fun q hq e => by subst e; rw [R.out.same _ (by omega)] at hq; have := HD.out _ hq; omega), R.out.lb, R.out.only.trans hs (fun q hq e => by omega), fun q hq => R.out.same q (by omega)⟩

end Go.Proofs.Ytpllolefmijfdaa
