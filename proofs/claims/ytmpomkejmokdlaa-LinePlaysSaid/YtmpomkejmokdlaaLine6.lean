/-
  Contracts of the line's Grant, Fail, Begin and End: they write into entries that are there.
-/
import Derived.Test.YtmpomkejmokdlaaLine5
import Derived.Test.YtmpomkejmokdlaaReg
import Derived.StillTailTactics
namespace Go.Proofs.Ytmpomkejmokdlaa
open Go.RowKit

theorem ens_set (l : List En) (j i : Nat) (e e' : En) (u : Value) (he : l[j]? = some e) (hi : i < 8) (hc : enCells e' = (enCells e).set i u) : ens (l.set j e') = (ens l).set (j * 8 + i) u := by
  induction l generalizing j with
  | nil => simp at he
  | cons t l ih =>
    have hl : ∀ t, (enCells t).length = 8 := fun _ => rfl
    cases j with
    | zero =>
      simp at he; subst he
      simp only [ens, List.set_cons_zero, List.flatMap_cons, Nat.zero_mul, Nat.zero_add]
      rw [List.set_append_left _ _ (by rw [hl]; exact hi), hc]
    | succ j =>
      have := ih j (by simpa using he)
      simp only [ens, List.set_cons_succ, List.flatMap_cons] at this ⊢
      rw [List.set_append_right _ _ (by rw [hl]; omega), hl, show (j + 1) * 8 + i - 8 = j * 8 + i from by omega, this]

/-- One cell of one entry is written. -/
theorem LineOf.set {w : World} {P g c n : Nat} {l : List En} (h : LineOf w P (.slice (some ⟨g, 0, none⟩) n c) l) (hn : n = l.length) {j i : Nat} {e : En} (e' : En) {u : Value} (he : l[j]? = some e) (hi : i < 8) (hc : enCells e' = (enCells e).set i u)
    (hg : SlI w w.heap.size e'.gv e'.got ∧ ∀ q, e'.gv.ownBlock = some q → ¬ LineS P (.slice (some ⟨g, 0, none⟩) n c) q ∧ q < w.heap.size) (hs : e'.got.length ≤ 100000) :
    LineOf (w.setCell ⟨g, j * 8 + i, none⟩ u) P (.slice (some ⟨g, 0, none⟩) n c) (l.set j e') ∧ Only (LineS P (.slice (some ⟨g, 0, none⟩) n c)) w (w.setCell ⟨g, j * 8 + i, none⟩ u) := by
  subst hn
  have hP := (Array.getElem?_eq_some_iff.1 h.at_).1
  have hne : g ≠ P := line_ne h.at_ h.own rfl
  have hoS : Only (LineS P (.slice (some ⟨g, 0, none⟩) l.length c)) w (w.setCell ⟨g, j * 8 + i, none⟩ u) := Only.setCell (p := ⟨g, j * 8 + i, none⟩) (Only.refl _ w) (fun _ => .inr rfl) u
  have hoG : Only (fun q => q = g) w (w.setCell ⟨g, j * 8 + i, none⟩ u) := only_set (Only.refl _ w) (j * 8 + i) u
  have key : ∀ x : En, (SlI w w.heap.size x.gv x.got ∧ ∀ q, x.gv.ownBlock = some q → ¬ LineS P (.slice (some ⟨g, 0, none⟩) l.length c) q ∧ q < w.heap.size) →
      SlI (w.setCell ⟨g, j * 8 + i, none⟩ u) (w.setCell ⟨g, j * 8 + i, none⟩ u).heap.size x.gv x.got ∧ ∀ q, x.gv.ownBlock = some q → ¬ LineS P (.slice (some ⟨g, 0, none⟩) l.length c) q ∧ q < (w.setCell ⟨g, j * 8 + i, none⟩ u).heap.size :=
    fun x ⟨h1, h2⟩ => ⟨h1.only hoS (fun q hq => (h2 q hq).1), fun q hq => ⟨(h2 q hq).1, Nat.lt_of_lt_of_le (h2 q hq).2 hoS.size⟩⟩
  refine ⟨⟨(hoG.block P hP (fun e' => hne e'.symm)).trans h.at_, ?_, fun x hx => ?_, by rw [List.length_set]; exact h.few, fun x hx => ?_⟩, hoS⟩
  · rw [List.length_set, ens_set l j i e e' u he hi hc]
    exact (h.own.stored (j * 8 + i) u).1
  · rcases List.mem_or_eq_of_mem_set hx with hx | rfl
    · exact key x (h.got x hx)
    · exact key _ hg
  · rcases List.mem_or_eq_of_mem_set hx with hx | rfl
    · exact h.short x hx
    · exact hs

theorem LineOf.setKeep {w : World} {P g c n : Nat} {l : List En} (h : LineOf w P (.slice (some ⟨g, 0, none⟩) n c) l) (hn : n = l.length) {j i : Nat} {e : En} (e' : En) {u : Value} (he : l[j]? = some e) (hi : i < 8) (hc : enCells e' = (enCells e).set i u) (h1 : e'.gv = e.gv) (h2 : e'.got = e.got) :
    LineOf (w.setCell ⟨g, j * 8 + i, none⟩ u) P (.slice (some ⟨g, 0, none⟩) n c) (l.set j e') ∧ Only (LineS P (.slice (some ⟨g, 0, none⟩) n c)) w (w.setCell ⟨g, j * 8 + i, none⟩ u) :=
  h.set hn e' he hi hc (by rw [h1, h2]; exact h.got e (List.mem_of_getElem? he)) (by rw [h2]; exact h.short e (List.mem_of_getElem? he))

/-! ### Fail -/
def failed (e : En) : En := { e with state := 2 }
def granted (e : En) (gv : Value) (got : List Int) (at_ : Int) : En := { e with state := 1, gv := gv, got := got, at_ := at_ }

theorem fail_no (P : Nat) (v : Value) (l : List En) (w : World) (hl : LineOf w P v l) (hix : ixI isW l = -1) :
    Calls Try.prog 15 #[.pointer (some ⟨P, 0, none⟩)] w fun e' w' => e' = .returned (.bool false) ∧ Pure w w' := by
  have HL := Lib.hid hl
  have HIX := Lib.hid hix
  clear hl hix
  go_enter Try.func15, Try.ntmps15
  go_wp2_with fail
  refine (first_any' P v l _ HL.out).mono ?_
  rw [HIX.out]
  rintro e1 w2 ⟨rfl, hp2⟩
  have P2 := Lib.hid hp2
  clear hp2
  go_wp2_with fail
  go_ret
  exact ⟨rfl, P2.out⟩

theorem fail_yes (P : Nat) (v : Value) (l : List En) (k : Nat) (e : En) (w : World) (hl : LineOf w P v l) (he : l[k]? = some e) (hix : ixI isW l = k) :
    Calls Try.prog 15 #[.pointer (some ⟨P, 0, none⟩)] w fun e' w' => e' = .returned (.bool true) ∧ LineOf w' P v (l.set k (failed e)) ∧ Only (LineS P v) w w' := by
  have hk := (List.getElem?_eq_some_iff.1 he).1
  obtain ⟨g, c, rfl, _, _⟩ := hl.own.form (n := l.length) (by omega)
  have HL := Lib.hid hl
  have HIX := Lib.hid hix
  have HE := Lib.hid he
  have hfew := hl.few
  have hk1 : (k : Int) < (l.length : Int) := by omega
  clear hl hix he
  go_enter Try.func15, Try.ntmps15
  go_wp2_with fail
  refine (first_any' P _ l _ HL.out).mono ?_
  rw [HIX.out]
  rintro e1 w2 ⟨rfl, hp2⟩
  have P2 := Lib.hid hp2
  have L2 := Lib.hid (HL.out.pure hp2)
  have c0 := L2.out.c0
  obtain ⟨g', c', hv, _, _, _, d3, _, _, _, _, df⟩ := L2.out.cells HE.out
  injection hv with hv1
  injection hv1 with hv1
  injection hv1 with hv1
  subst hv1
  have f3 := df (k * 8 + 3)
  clear hp2 df
  go_wp2_with fail
  go_ret
  have D := L2.out.setKeep rfl (failed e) (i := 3) (u := .int .i64 2) HE.out (by omega) rfl rfl rfl
  exact ⟨rfl, D.1, (P2.out.mono (fun _ _ f => f.elim)).trans D.2 (fun _ _ h => h)⟩

/-! ### Grant -/
theorem grant_no (P : Nat) (v : Value) (l : List En) (A : Option Addr) (n c : Nat) (at_ : Int) (w : World) (hl : LineOf w P v l) (hix : ixI isW l = -1) :
    Calls Try.prog 14 #[.pointer (some ⟨P, 0, none⟩), .slice A n c, .int .i64 at_] w fun e' w' => e' = .returned (.bool false) ∧ Pure w w' := by
  have HL := Lib.hid hl
  have HIX := Lib.hid hix
  clear hl hix
  go_enter Try.func14, Try.ntmps14
  go_wp2_with fail
  refine (first_any' P v l _ HL.out).mono ?_
  rw [HIX.out]
  rintro e1 w2 ⟨rfl, hp2⟩
  have P2 := Lib.hid hp2
  clear hp2
  go_wp2_with fail
  go_ret
  exact ⟨rfl, P2.out⟩

set_option maxHeartbeats 400000 in
theorem grant_yes (P : Nat) (v : Value) (l : List En) (k : Nat) (e : En) (u : Value) (xs : List Int) (at_ : Int) (w : World) (hl : LineOf w P v l) (he : l[k]? = some e) (hix : ixI isW l = k) (hs : SlI w w.heap.size u xs) (hx : xs.length ≤ 100000) :
    Calls Try.prog 14 #[.pointer (some ⟨P, 0, none⟩), u, .int .i64 at_] w fun e' w' => ∃ gv, e' = .returned (.bool true) ∧ LineOf w' P v (l.set k (granted e gv xs at_)) ∧ Only (LineS P v) w w' ∧ ∀ q, gv.ownBlock = some q → w.heap.size ≤ q := by
  have hk := (List.getElem?_eq_some_iff.1 he).1
  obtain ⟨g, c, rfl, _, _⟩ := hl.own.form (n := l.length) (by omega)
  obtain ⟨AU, cU, rfl, _, _⟩ := hs.len
  have HS := Lib.hid hs
  have HL := Lib.hid hl
  have HIX := Lib.hid hix
  have HE := Lib.hid he
  have HRNG := Lib.hid (show ∀ x ∈ xs, -9223372036854775808 ≤ x ∧ x ≤ 9223372036854775807 from by obtain ⟨_, _, _, _, _, h, _⟩ := hs; exact h)
  have hfew := hl.few
  have hk1 : (k : Int) < (l.length : Int) := by omega
  clear hl hix he hs
  go_enter Try.func14, Try.ntmps14
  go_wp2_with fail
  refine (first_any' P _ l _ HL.out).mono ?_
  rw [HIX.out]
  rintro e1 w2 ⟨rfl, hp2⟩
  have P2 := Lib.hid hp2
  have L2 := Lib.hid (HL.out.pure hp2)
  have c0 := L2.out.c0
  clear hp2
  go_wp2_with fail
  refine (clone_any _ xs _ (HS.out.only P2.out (fun _ _ f => f)) (by omega)).mono ?_
  rintro e3 w3 ⟨v3, rfl, hp3, ho3⟩
  obtain ⟨A3, c3, rfl⟩ := own_form ho3
  have P3 := Lib.hid (P2.out.then hp3)
  have L3 := Lib.hid (L2.out.pure hp3)
  have O3 := Lib.hid ho3
  have S3 := Lib.hid (show SlI w3 w3.heap.size (.slice A3 xs.length c3) xs from SlI.of_own ho3 HRNG.out)
  have HQ := Lib.hid (show ∀ q, (Value.slice A3 xs.length c3).ownBlock = some q → w2.heap.size ≤ q ∧ q < w3.heap.size from fun q hq => ho3.lt q hq)
  obtain ⟨g', c', hv, _, _, _, d3, _, d5, d6, _, df⟩ := L3.out.cells HE.out
  injection hv with hv1
  injection hv1 with hv1
  injection hv1 with hv1
  subst hv1
  obtain ⟨G, gc, hgv, _⟩ := (L3.out.got e (List.mem_of_getElem? HE.out)).1
  rw [hgv] at d6
  have f3 := df (k * 8 + 3)
  have f5 := df (k * 8 + 5)
  have f6 := df (k * 8 + 6)
  clear hp3 ho3 df c0 hgv
  go_wp2_with fail
  go_ret
  have hq : ∀ q, (Value.slice A3 xs.length c3).ownBlock = some q → ¬ LineS P (.slice (some ⟨g, 0, none⟩) l.length c) q ∧ w.heap.size ≤ q := fun q h => by
    have h1 := HQ.out q h
    have h2 := P2.out.size
    exact ⟨fun hS => by have := L2.out.lt q hS; omega, by omega⟩
  have key : ∀ w' : World, Only (LineS P (.slice (some ⟨g, 0, none⟩) l.length c)) w3 w' → SlI w' w'.heap.size (.slice A3 xs.length c3) xs ∧ ∀ q, (Value.slice A3 xs.length c3).ownBlock = some q → ¬ LineS P (.slice (some ⟨g, 0, none⟩) l.length c) q ∧ q < w'.heap.size :=
    fun w' ho => ⟨S3.out.only ho (fun q h => (hq q h).1), fun q h => ⟨(hq q h).1, Nat.lt_of_lt_of_le (HQ.out q h).2 ho.size⟩⟩
  have D1 := L3.out.setKeep rfl { e with state := 1 } (i := 3) (u := .int .i64 1) HE.out (by omega) rfl rfl rfl
  have D2 := D1.1.set (e := { e with state := 1 }) (by rw [List.length_set]) { e with state := 1, gv := .slice A3 xs.length c3, got := xs } (i := 6) (u := .slice A3 xs.length c3) (by rw [List.getElem?_set_self hk]) (by omega) rfl (key _ D1.2) hx
  have D3 := D2.1.setKeep (e := { e with state := 1, gv := .slice A3 xs.length c3, got := xs }) (by rw [List.length_set, List.length_set]) (granted e (.slice A3 xs.length c3) xs at_) (i := 5) (u := .int .i64 at_) (by rw [List.getElem?_set_self (by rw [List.length_set]; exact hk)]) (by omega) rfl rfl rfl
  rw [List.set_set, List.set_set] at D3
  exact ⟨_, rfl, D3.1, ((P3.out.mono (fun _ _ f => f.elim)).trans D1.2 (fun _ _ h => h)).trans (D2.2.trans D3.2 (fun _ _ h => h)) (fun _ _ h => h), fun q h => (hq q h).2⟩

/-! ### Begin, End -/
/-- The first k turned by f. -/
def upd (f : En → En) (k : Nat) (l : List En) : List En := (l.take k).map f ++ l.drop k
theorem upd_len (f : En → En) (k : Nat) (l : List En) : (upd f k l).length = l.length := by simp [upd]; omega
theorem upd_zero (f : En → En) (l : List En) : upd f 0 l = l := by simp [upd]
theorem upd_all (f : En → En) (l : List En) : upd f l.length l = l.map f := by simp [upd]
theorem upd_get (f : En → En) (k : Nat) (l : List En) (hk : k < l.length) : (upd f k l)[k]? = some l[k] := by
  simp only [upd]
  rw [List.getElem?_append_right (by simp; omega)]
  simp [Nat.min_eq_left (Nat.le_of_lt hk)]
theorem upd_succ (f : En → En) (k : Nat) (l : List En) (hk : k < l.length) : (upd f k l).set k (f l[k]) = upd f (k + 1) l := by
  simp only [upd]
  rw [List.set_append_right _ _ (by simp; omega)]
  simp only [List.length_map, List.length_take, Nat.min_eq_left (Nat.le_of_lt hk), Nat.sub_self]
  rw [List.drop_eq_getElem_cons hk, List.set_cons_zero, ← List.take_append_getElem hk, List.map_append, List.append_assoc]
  rfl

def note (e : En) : En := { e with noted := isW e }
def tick (e : En) : En := { e with cycles := if e.noted = true ∧ isW e = true then e.cycles + 1 else e.cycles, noted := false }

set_option maxRecDepth 100000 in
set_option maxHeartbeats 400000 in
theorem begin_any (P : Nat) (v : Value) (l : List En) (w : World) (hl : LineOf w P v l) :
    Calls Try.prog 18 #[.pointer (some ⟨P, 0, none⟩)] w fun e' w' => e' = .returned (.tuple #[]) ∧ LineOf w' P v (l.map note) ∧ Only (LineS P v) w w' := by
  obtain ⟨A, c, rfl⟩ := hl.form
  have HL := Lib.hid hl
  have c0 := hl.c0
  have hfew := hl.few
  clear hl
  go_enter Try.func18, Try.ntmps18
  go_wp2_with fail
  clear c0
  go_loopw [8] (fun i wr => ∃ k : Nat, k ≤ l.length ∧ i = .int .i64 k ∧ LineOf wr P (.slice A l.length c) (upd note k l) ∧ Only (LineS P (.slice A l.length c)) w wr) (fun i _ => l.length - (intOf i).toNat)
  case atStart => exact ⟨0, Nat.zero_le _, rfl, by rw [upd_zero]; exact HL.out, Only.refl _ _⟩
  case round =>
    obtain ⟨k, hk, rfl, hl, ho⟩ := hrel
    have LR := Lib.hid hl
    have HO := Lib.hid ho
    clear hl ho
    by_cases hlt : k < l.length
    · have HG := Lib.hid (upd_get note k l hlt)
      have HS := Lib.hid (upd_succ note k l hlt)
      obtain ⟨g', cc, hv, _, _, _, d3, _, _, _, d7, df⟩ := LR.out.cells HG.out
      injection hv with hv1 hv2 hv3
      subst hv1
      have c0 := LR.out.c0
      have f7 := df (k * 8 + 7)
      clear df hv2 hv3
      generalize l[k] = e at *
      have hk1 : (k : Int) < (l.length : Int) := by omega
      go_wp2_with fail
      go_still_tail 17, (by kernel_rfl)
      go_wp2_with fail
      have D := LR.out.setKeep (by rw [upd_len]) (note e) (i := 7) (u := .bool (isW e)) HG.out (by omega) rfl rfl rfl
      rw [HS.out] at D
      go_roundw
      case rel => exact ⟨k + 1, by omega, by go_num, D.1.pure ((Only.refl _ _).drewN 1), (HO.out.trans D.2 (fun _ _ h => h)).drewN 1⟩
      case measure => simp [intOf]; omega
    · obtain rfl : k = l.length := by omega
      go_wp2_with fail
      go_end0
      exact ⟨rfl, by have := LR.out; rwa [upd_all] at this, HO.out⟩

theorem upd_mem {f : En → En} {k : Nat} {l : List En} {x : En} (h : x ∈ upd f k l) : x ∈ l ∨ ∃ y ∈ l, x = f y := by
  rcases List.mem_append.1 h with h | h
  · obtain ⟨y, hy, rfl⟩ := List.mem_map.1 h
    exact .inr ⟨y, List.mem_of_mem_take hy, rfl⟩
  · exact .inl (List.mem_of_mem_drop h)

set_option maxRecDepth 100000 in
set_option maxHeartbeats 400000 in
theorem end_any (P : Nat) (v : Value) (l : List En) (w : World) (hl : LineOf w P v l) (hcy : ∀ e ∈ l, 0 ≤ e.cycles ∧ e.cycles ≤ 100000) :
    Calls Try.prog 20 #[.pointer (some ⟨P, 0, none⟩)] w fun e' w' => e' = .returned (.tuple #[]) ∧ LineOf w' P v (l.map tick) ∧ Only (LineS P v) w w' := by
  obtain ⟨A, c, rfl⟩ := hl.form
  have HL := Lib.hid hl
  have HCY := Lib.hid hcy
  have c0 := hl.c0
  have hfew := hl.few
  clear hl hcy
  go_enter Try.func20, Try.ntmps20
  go_wp2_with fail
  clear c0
  go_loopw [9] (fun i wr => ∃ k : Nat, k ≤ l.length ∧ i = .int .i64 k ∧ LineOf wr P (.slice A l.length c) (upd tick k l) ∧ Only (LineS P (.slice A l.length c)) w wr) (fun i _ => l.length - (intOf i).toNat)
  case atStart => exact ⟨0, Nat.zero_le _, rfl, by rw [upd_zero]; exact HL.out, Only.refl _ _⟩
  case round =>
    obtain ⟨k, hk, rfl, hl, ho⟩ := hrel
    have LR := Lib.hid hl
    have HO := Lib.hid ho
    clear hl ho
    by_cases hlt : k < l.length
    · have HG := Lib.hid (upd_get tick k l hlt)
      have HS := Lib.hid (upd_succ tick k l hlt)
      obtain ⟨hc1, hc2⟩ := HCY.out l[k] (List.getElem_mem hlt)
      obtain ⟨g', cc, hv, _, _, _, d3, d4, _, _, d7, df⟩ := LR.out.cells HG.out
      injection hv with hv1 hv2 hv3
      subst hv1
      have c0 := LR.out.c0
      have f4 := df (k * 8 + 4)
      have f7 := df (k * 8 + 7)
      clear df hv2 hv3
      generalize l[k] = e at *
      have hk1 : (k : Int) < (l.length : Int) := by omega
      cases hno : e.noted with
      | false =>
        rw [hno] at d7
        have HN := Lib.hid (show tick e = { e with noted := false } from by simp [tick, hno])
        have hno2 := Lib.hid hno
        clear hno
        go_wp2_with fail
        have D := LR.out.setKeep (by rw [upd_len]) (tick e) (i := 7) (u := .bool false) HG.out (by omega) (by rw [HN.out]; rfl) (by rw [HN.out]) (by rw [HN.out])
        rw [HS.out] at D
        go_roundw
        case rel => exact ⟨k + 1, by omega, by go_num, D.1, HO.out.trans D.2 (fun _ _ h => h)⟩
        case measure => simp [intOf]; omega
      | true =>
        rw [hno] at d7
        have hno2 := Lib.hid hno
        clear hno
        cases hw : isW e with
        | false =>
          have HN := Lib.hid (show tick e = { e with noted := false } from by simp [tick, hw])
          have hst : (e.state == 0) = false := hw
          clear hw
          go_wp2_with fail
          have D := LR.out.setKeep (by rw [upd_len]) (tick e) (i := 7) (u := .bool false) HG.out (by omega) (by rw [HN.out]; rfl) (by rw [HN.out]) (by rw [HN.out])
          rw [HS.out] at D
          go_roundw
          case rel => exact ⟨k + 1, by omega, by go_num, D.1, HO.out.trans D.2 (fun _ _ h => h)⟩
          case measure => simp [intOf]; omega
        | true =>
          have HN := Lib.hid (show tick e = { e with cycles := e.cycles + 1, noted := false } from by simp [tick, hw, hno2.out])
          have hst : (e.state == 0) = true := hw
          clear hw
          go_wp2_with fail
          have hlk : k < (upd tick k l).length := by rw [upd_len]; exact hlt
          have D1 := LR.out.setKeep (by rw [upd_len]) { e with cycles := e.cycles + 1 } (i := 4) (u := .int .i64 (e.cycles + 1)) HG.out (by omega) rfl rfl rfl
          have D := D1.1.setKeep (e := { e with cycles := e.cycles + 1 }) (by rw [List.length_set, upd_len]) (tick e) (i := 7) (u := .bool false) (by rw [List.getElem?_set_self hlk]) (by omega) (by rw [HN.out]; rfl) (by rw [HN.out]) (by rw [HN.out])
          rw [List.set_set, HS.out] at D
          go_roundw
          case rel => exact ⟨k + 1, by omega, by go_num, D.1, HO.out.trans (D1.2.trans D.2 (fun _ _ h => h)) (fun _ _ h => h)⟩
          case measure => simp [intOf]; omega
    · obtain rfl : k = l.length := by omega
      go_wp2_with fail
      go_end0
      exact ⟨rfl, by have := LR.out; rwa [upd_all] at this, HO.out⟩

end Go.Proofs.Ytmpomkejmokdlaa
