/-
  The document's line (sporef6.Line) in memory; contracts of its find, first, Add, Fail, Waits, Of, First; of SameReq.
-/
import Derived.Test.YtmpomkejmokdlaaLine6
import Derived.Test.YtmpomkejmokdlaaOp10
namespace Go.Proofs.Ytmpomkejmokdlaa
open Go.RowKit

/-- A request's cells. -/
def rqCells (e : En) : List Value := [.int .i64 e.thread, .int .i64 e.frags, .int .i64 e.spine, .int .i64 e.state, .int .i64 e.cycles, .int .i64 e.at_, e.gv]
def rqs (l : List En) : List Value := l.flatMap rqCells
theorem rqs_length (l : List En) : (rqs l).length = l.length * 7 := by
  induction l with
  | nil => rfl
  | cons e l ih => simp [rqs, rqCells] at ih ⊢; omega
theorem rqs_append (l m : List En) : rqs (l ++ m) = rqs l ++ rqs m := by simp [rqs]
theorem rqs_get (l : List En) (j i : Nat) (e : En) (h : l[j]? = some e) (hi : i < 7) : (rqs l)[j * 7 + i]? = (rqCells e)[i]? := by
  induction l generalizing j with
  | nil => simp at h
  | cons t l ih =>
    cases j with
    | zero =>
      simp at h; subst h
      have hl : (rqCells t).length = 7 := rfl
      simp only [rqs, List.flatMap_cons, Nat.zero_mul, Nat.zero_add]
      rw [List.getElem?_append_left (by omega)]
    | succ j =>
      have := ih j (by simpa using h)
      have hl : (rqCells t).length = 7 := rfl
      simp only [rqs, List.flatMap_cons] at this ⊢
      rw [List.getElem?_append_right (by omega), hl, show (j + 1) * 7 + i - 7 = j * 7 + i from by omega]
      exact this
theorem rqs_take (l : List En) (k : Nat) : (rqs l).take (k * 7) = rqs (l.take k) := by
  induction l generalizing k with
  | nil => simp [rqs]
  | cons t l ih =>
    cases k with
    | zero => simp [rqs]
    | succ k =>
      have hl : (rqCells t).length = 7 := rfl
      have := ih k
      simp only [rqs, List.flatMap_cons, List.take_succ_cons] at this ⊢
      rw [List.take_append, hl, show (k + 1) * 7 - 7 = k * 7 from by omega, this, List.take_of_length_le (by omega)]
theorem rqs_drop (l : List En) (k : Nat) : (rqs l).drop (k * 7) = rqs (l.drop k) := by
  induction l generalizing k with
  | nil => simp [rqs]
  | cons t l ih =>
    cases k with
    | zero => simp [rqs]
    | succ k =>
      have hl : (rqCells t).length = 7 := rfl
      have := ih k
      simp only [rqs, List.flatMap_cons, List.drop_succ_cons] at this ⊢
      rw [List.drop_append, hl, show (k + 1) * 7 - 7 = k * 7 from by omega, this, List.drop_of_length_le (by omega), List.nil_append]

theorem rqs_set (l : List En) (j i : Nat) (e e' : En) (u : Value) (he : l[j]? = some e) (hi : i < 7) (hc : rqCells e' = (rqCells e).set i u) : rqs (l.set j e') = (rqs l).set (j * 7 + i) u := by
  induction l generalizing j with
  | nil => simp at he
  | cons t l ih =>
    have hl : ∀ t, (rqCells t).length = 7 := fun _ => rfl
    cases j with
    | zero =>
      simp at he; subst he
      simp only [rqs, List.set_cons_zero, List.flatMap_cons, Nat.zero_mul, Nat.zero_add]
      rw [List.set_append_left _ _ (by rw [hl]; exact hi), hc]
    | succ j =>
      have := ih j (by simpa using he)
      simp only [rqs, List.set_cons_succ, List.flatMap_cons] at this ⊢
      rw [List.set_append_right _ _ (by rw [hl]; omega), hl, show (j + 1) * 7 + i - 7 = j * 7 + i from by omega, this]


/-- What the document's line in block X with the slices v, n may change. -/
def LnxS (X : Nat) (v n : Value) (k : Nat) : Prop := k = X ∨ v.ownBlock = some k ∨ n.ownBlock = some k
/-- The document's line in block X: the requests l, the noted threads nt. -/
structure LnxOf (w : World) (X : Nat) (v n : Value) (l : List En) (nt : List Int) : Prop where
  at_ : w.heap[X]? = some (.cells #[v, n] 46 (0, 0))
  own : w.ownsRow 0 28 7 v l.length (rqs l)
  nown : w.ownsRow 0 3 1 n nt.length (ints nt)
  nrng : InR nt
  got : ∀ e ∈ l, SlI w w.heap.size e.gv e.got ∧ ∀ q, e.gv.ownBlock = some q → ¬ LnxS X v n q ∧ q < w.heap.size
  few : l.length ≤ 1000
  short : ∀ e ∈ l, e.got.length ≤ 100000

/-- A row's block has its element's type. -/
theorem row_ne {w : World} {P : Nat} {cs : Array Value} {t e : TypeId} (h : w.heap[P]? = some (.cells cs t (0, 0))) {base n size : Nat} {u : Value} {xs : List Value} (ho : w.ownsRow base e size u n xs) (hne : t ≠ e) {k : Nat} (hk : u.ownBlock = some k) : k ≠ P := by
  rintro rfl
  rcases ho.2 with ⟨rfl, _⟩ | ⟨g, cap, cur, rfl, _, hg, _⟩
  · simp [Value.ownBlock] at hk
  · simp only [Value.ownBlock, Option.some.injEq] at hk
    subst hk
    rw [h] at hg
    injection hg with hg
    injection hg with _ hg
    exact hne hg
theorem rows_ne {w : World} {e e' : TypeId} {base n size base' n' size' : Nat} {u u' : Value} {xs xs' : List Value} (ho : w.ownsRow base e size u n xs) (ho' : w.ownsRow base' e' size' u' n' xs') (hne : e' ≠ e) {k : Nat} (hk : u.ownBlock = some k) : u'.ownBlock ≠ some k := by
  intro hk'
  rcases ho'.2 with ⟨rfl, _⟩ | ⟨g, cap, cur, rfl, _, hg, _⟩
  · simp [Value.ownBlock] at hk'
  · simp only [Value.ownBlock, Option.some.injEq] at hk'
    subst hk'
    exact row_ne hg ho hne hk rfl

section
variable {w w' : World} {X : Nat} {v n : Value} {l : List En} {nt : List Int}
theorem LnxOf.lt (h : LnxOf w X v n l nt) : ∀ k, LnxS X v n k → k < w.heap.size := fun k hk => by
  rcases hk with rfl | hk | hk
  · exact (Array.getElem?_eq_some_iff.1 h.at_).1
  · exact (h.own.lt k hk).2
  · exact (h.nown.lt k hk).2
theorem LnxOf.c0 (h : LnxOf w X v n l nt) : w.cell? ⟨X, 0, none⟩ = some v := by rw [cell_of_row w X 0 _ _ _ h.at_]; rfl
theorem LnxOf.c1 (h : LnxOf w X v n l nt) : w.cell? ⟨X, 1, none⟩ = some n := by rw [cell_of_row w X 1 _ _ _ h.at_]; rfl
theorem LnxOf.f0 (h : LnxOf w X v n l nt) (k : Nat) : w.frozen? ⟨X, k, none⟩ = false := frozen_of_row w X k _ _ h.at_
theorem LnxOf.form (h : LnxOf w X v n l nt) : ∃ A c, v = .slice A l.length c := own_form h.own
theorem LnxOf.sl (h : LnxOf w X v n l nt) : SlI w w.heap.size n nt := SlI.of_own h.nown h.nrng
theorem LnxOf.only {S : Nat → Prop} (h : LnxOf w X v n l nt) (ho : Only S w w') (hn : ∀ k, LnxS X v n k → ¬ S k) (hg : ∀ e ∈ l, ∀ q, e.gv.ownBlock = some q → ¬ S q) : LnxOf w' X v n l nt :=
  ⟨(ho.block X (Array.getElem?_eq_some_iff.1 h.at_).1 (hn X (.inl rfl))).trans h.at_, ho.own h.own (fun k hk => hn k (.inr (.inl hk))), ho.own h.nown (fun k hk => hn k (.inr (.inr hk))), h.nrng,
    fun e he => ⟨(h.got e he).1.only ho (hg e he), fun q hq => ⟨((h.got e he).2 q hq).1, Nat.lt_of_lt_of_le ((h.got e he).2 q hq).2 ho.size⟩⟩, h.few, h.short⟩
theorem LnxOf.pure (h : LnxOf w X v n l nt) (hp : Pure w w') : LnxOf w' X v n l nt := h.only hp (fun _ _ f => f) (fun _ _ _ _ f => f)
theorem LnxOf.cells (h : LnxOf w X v n l nt) {j : Nat} {e : En} (he : l[j]? = some e) : ∃ g c, v = .slice (some ⟨g, 0, none⟩) l.length c ∧ w.cell? ⟨g, j * 7, none⟩ = some (.int .i64 e.thread) ∧ w.cell? ⟨g, j * 7 + 1, none⟩ = some (.int .i64 e.frags) ∧ w.cell? ⟨g, j * 7 + 2, none⟩ = some (.int .i64 e.spine) ∧
    w.cell? ⟨g, j * 7 + 3, none⟩ = some (.int .i64 e.state) ∧ w.cell? ⟨g, j * 7 + 4, none⟩ = some (.int .i64 e.cycles) ∧ w.cell? ⟨g, j * 7 + 5, none⟩ = some (.int .i64 e.at_) ∧ w.cell? ⟨g, j * 7 + 6, none⟩ = some e.gv ∧ ∀ q, w.frozen? ⟨g, q, none⟩ = false := by
  have hj := (List.getElem?_eq_some_iff.1 he).1
  obtain ⟨g, c, hv, _, _⟩ := h.own.form (n := l.length) (by omega)
  subst hv
  have key : ∀ i, i < 7 → w.cell? ⟨g, j * 7 + i, none⟩ = (rqCells e)[i]? := fun i hi => (h.own.cellAt (j * 7 + i) (by omega)).trans (rqs_get l j i e he hi)
  exact ⟨g, c, rfl, key 0 (by omega), key 1 (by omega), key 2 (by omega), key 3 (by omega), key 4 (by omega), key 5 (by omega), key 6 (by omega), fun q => h.own.frozenAt q⟩
end

/-- One cell of one request is written. -/
theorem LnxOf.set {w : World} {X g c m : Nat} {n : Value} {nt : List Int} {l : List En} (h : LnxOf w X (.slice (some ⟨g, 0, none⟩) m c) n l nt) (hm : m = l.length) {j i : Nat} {e : En} (e' : En) {u : Value} (he : l[j]? = some e) (hi : i < 7) (hc : rqCells e' = (rqCells e).set i u)
    (hg : SlI w w.heap.size e'.gv e'.got ∧ ∀ q, e'.gv.ownBlock = some q → ¬ LnxS X (.slice (some ⟨g, 0, none⟩) m c) n q ∧ q < w.heap.size) (hs : e'.got.length ≤ 100000) :
    LnxOf (w.setCell ⟨g, j * 7 + i, none⟩ u) X (.slice (some ⟨g, 0, none⟩) m c) n (l.set j e') nt ∧ Only (LnxS X (.slice (some ⟨g, 0, none⟩) m c) n) w (w.setCell ⟨g, j * 7 + i, none⟩ u) := by
  subst hm
  have hX := (Array.getElem?_eq_some_iff.1 h.at_).1
  have hne : g ≠ X := row_ne h.at_ h.own (by decide) rfl
  have hn : n.ownBlock ≠ some g := rows_ne h.own h.nown (by decide) rfl
  have hoS : Only (LnxS X (.slice (some ⟨g, 0, none⟩) l.length c) n) w (w.setCell ⟨g, j * 7 + i, none⟩ u) := Only.setCell (p := ⟨g, j * 7 + i, none⟩) (Only.refl _ w) (fun _ => .inr (.inl rfl)) u
  have hoG : Only (fun q => q = g) w (w.setCell ⟨g, j * 7 + i, none⟩ u) := only_set (Only.refl _ w) (j * 7 + i) u
  have key : ∀ x : En, (SlI w w.heap.size x.gv x.got ∧ ∀ q, x.gv.ownBlock = some q → ¬ LnxS X (.slice (some ⟨g, 0, none⟩) l.length c) n q ∧ q < w.heap.size) →
      SlI (w.setCell ⟨g, j * 7 + i, none⟩ u) (w.setCell ⟨g, j * 7 + i, none⟩ u).heap.size x.gv x.got ∧ ∀ q, x.gv.ownBlock = some q → ¬ LnxS X (.slice (some ⟨g, 0, none⟩) l.length c) n q ∧ q < (w.setCell ⟨g, j * 7 + i, none⟩ u).heap.size :=
    fun x ⟨h1, h2⟩ => ⟨h1.only hoS (fun q hq => (h2 q hq).1), fun q hq => ⟨(h2 q hq).1, Nat.lt_of_lt_of_le (h2 q hq).2 hoS.size⟩⟩
  refine ⟨⟨(hoG.block X hX (fun e' => hne e'.symm)).trans h.at_, ?_, hoG.own h.nown (fun k hk e => hn (e ▸ hk)), h.nrng, fun x hx => ?_, by rw [List.length_set]; exact h.few, fun x hx => ?_⟩, hoS⟩
  · rw [List.length_set, rqs_set l j i e e' u he hi hc]
    exact (h.own.stored (j * 7 + i) u).1
  · rcases List.mem_or_eq_of_mem_set hx with hx | rfl
    · exact key x (h.got x hx)
    · exact key _ hg
  · rcases List.mem_or_eq_of_mem_set hx with hx | rfl
    · exact h.short x hx
    · exact hs
theorem LnxOf.setKeep {w : World} {X g c m : Nat} {n : Value} {nt : List Int} {l : List En} (h : LnxOf w X (.slice (some ⟨g, 0, none⟩) m c) n l nt) (hm : m = l.length) {j i : Nat} {e : En} (e' : En) {u : Value} (he : l[j]? = some e) (hi : i < 7) (hc : rqCells e' = (rqCells e).set i u) (h1 : e'.gv = e.gv) (h2 : e'.got = e.got) :
    LnxOf (w.setCell ⟨g, j * 7 + i, none⟩ u) X (.slice (some ⟨g, 0, none⟩) m c) n (l.set j e') nt ∧ Only (LnxS X (.slice (some ⟨g, 0, none⟩) m c) n) w (w.setCell ⟨g, j * 7 + i, none⟩ u) :=
  h.set hm e' he hi hc (by rw [h1, h2]; exact h.got e (List.mem_of_getElem? he)) (by rw [h2]; exact h.short e (List.mem_of_getElem? he))

theorem find_any (X : Nat) (v n : Value) (l : List En) (nt : List Int) (t : Int) (w : World) (hl : LnxOf w X v n l nt) :
    Calls Try.prog 37 #[.pointer (some ⟨X, 0, none⟩), .int .i64 t] w fun e w' => e = .returned (.int .i64 (ixI (isT t) l)) ∧ w = w' := by
  obtain ⟨A, c, rfl⟩ := hl.form
  have hfew := hl.few
  have c0 := hl.c0
  have HL := Lib.hid hl
  clear hl
  go_enter Try.func37, Try.ntmps37
  go_wp2_with fail
  go_loop [5] (fun i => ∃ k : Nat, k ≤ l.length ∧ i = .int .i64 k ∧ (∀ j, j < k → ∀ u, l[j]? = some u → (isT t) u = false)) (fun i => l.length - (intOf i).toNat)
  case atStart => exact ⟨0, Nat.zero_le _, by first | rfl | simp, (by omega)⟩
  case round =>
    obtain ⟨k, hk, rfl, hall⟩ := hrel
    have HALL := Lib.hid hall
    clear hall
    by_cases hlt : k < l.length
    · obtain ⟨e, he⟩ : ∃ e, l[k]? = some e := ⟨l[k], List.getElem?_eq_getElem hlt⟩
      obtain ⟨g, cg, hv, d0, d1, d2, d3, _⟩ := HL.out.cells he
      injection hv with hv1 hv2 hv3
      subst hv1
      have HE := Lib.hid he
      have hlt' : (k : Int) < ((l.length : Nat) : Int) := by omega
      clear he hv2 hv3
      cases hm : (isT t) e with
      | true =>
        have HM := Lib.hid hm
        have hm' : (e.thread == t) = true := hm
        clear hm
        go_wp2_with fail
        go_ret
        exact ⟨ret_i (ixI_at HE.out HM.out HALL.out), rfl⟩
      | false =>
        have HM := Lib.hid hm
        have hm' : (e.thread == t) = false := hm
        clear hm
        go_wp2_with fail
        go_round
        case rel =>
          refine ⟨k + 1, by omega, by first | rfl | simp, ?_⟩
          intro j hj u hu
          by_cases e' : j < k
          · exact HALL.out j e' u hu
          · obtain rfl : j = k := by omega
            rw [HE.out] at hu
            cases hu
            exact HM.out
        case measure => simp [intOf]; omega
    · obtain rfl : k = l.length := by omega
      go_wp2_with fail
      go_ret
      exact ⟨ret_i (ixI_none fun j t ht => HALL.out j (List.getElem?_eq_some_iff.1 ht).1 t ht), rfl⟩

theorem firstx_any (X : Nat) (v n : Value) (l : List En) (nt : List Int) (w : World) (hl : LnxOf w X v n l nt) :
    Calls Try.prog 38 #[.pointer (some ⟨X, 0, none⟩)] w fun e w' => e = .returned (.int .i64 (ixI isW l)) ∧ w = w' := by
  obtain ⟨A, c, rfl⟩ := hl.form
  have hfew := hl.few
  have c0 := hl.c0
  have HL := Lib.hid hl
  clear hl
  go_enter Try.func38, Try.ntmps38
  go_wp2_with fail
  go_loop [3] (fun i => ∃ k : Nat, k ≤ l.length ∧ i = .int .i64 k ∧ (∀ j, j < k → ∀ u, l[j]? = some u → isW u = false)) (fun i => l.length - (intOf i).toNat)
  case atStart => exact ⟨0, Nat.zero_le _, by first | rfl | simp, (by omega)⟩
  case round =>
    obtain ⟨k, hk, rfl, hall⟩ := hrel
    have HALL := Lib.hid hall
    clear hall
    by_cases hlt : k < l.length
    · obtain ⟨e, he⟩ : ∃ e, l[k]? = some e := ⟨l[k], List.getElem?_eq_getElem hlt⟩
      obtain ⟨g, cg, hv, d0, d1, d2, d3, _⟩ := HL.out.cells he
      injection hv with hv1 hv2 hv3
      subst hv1
      have HE := Lib.hid he
      have hlt' : (k : Int) < ((l.length : Nat) : Int) := by omega
      clear he hv2 hv3
      cases hm : isW e with
      | true =>
        have HM := Lib.hid hm
        have hm' : (e.state == 0) = true := hm
        clear hm
        go_wp2_with fail
        go_ret
        exact ⟨ret_i (ixI_at HE.out HM.out HALL.out), rfl⟩
      | false =>
        have HM := Lib.hid hm
        have hm' : (e.state == 0) = false := hm
        clear hm
        go_wp2_with fail
        go_round
        case rel =>
          refine ⟨k + 1, by omega, by first | rfl | simp, ?_⟩
          intro j hj u hu
          by_cases e' : j < k
          · exact HALL.out j e' u hu
          · obtain rfl : j = k := by omega
            rw [HE.out] at hu
            cases hu
            exact HM.out
        case measure => simp [intOf]; omega
    · obtain rfl : k = l.length := by omega
      go_wp2_with fail
      go_ret
      exact ⟨ret_i (ixI_none fun j t ht => HALL.out j (List.getElem?_eq_some_iff.1 ht).1 t ht), rfl⟩


theorem failx_no (X : Nat) (v n : Value) (l : List En) (nt : List Int) (w : World) (hl : LnxOf w X v n l nt) (hix : ixI isW l = -1) :
    Calls Try.prog 24 #[.pointer (some ⟨X, 0, none⟩)] w fun e' w' => e' = .returned (.bool false) ∧ Pure w w' := by
  have HL := Lib.hid hl
  have HIX := Lib.hid hix
  clear hl hix
  go_enter Try.func24, Try.ntmps24
  go_wp2_with fail
  refine (firstx_any X v n l nt _ HL.out).mono ?_
  rw [HIX.out]
  rintro e1 w2 ⟨rfl, rfl⟩
  go_wp2_with fail
  go_ret
  exact ⟨rfl, Only.refl _ _⟩
theorem failx_yes (X : Nat) (v n : Value) (l : List En) (nt : List Int) (k : Nat) (e : En) (w : World) (hl : LnxOf w X v n l nt) (he : l[k]? = some e) (hix : ixI isW l = k) :
    Calls Try.prog 24 #[.pointer (some ⟨X, 0, none⟩)] w fun e' w' => e' = .returned (.bool true) ∧ LnxOf w' X v n (l.set k (failed e)) nt ∧ Only (LnxS X v n) w w' := by
  have hk := (List.getElem?_eq_some_iff.1 he).1
  obtain ⟨g, c, rfl, _, _⟩ := hl.own.form (n := l.length) (by omega)
  have HL := Lib.hid hl
  have HIX := Lib.hid hix
  have HE := Lib.hid he
  have hfew := hl.few
  have hk1 : (k : Int) < (l.length : Int) := by omega
  clear hl hix he
  go_enter Try.func24, Try.ntmps24
  go_wp2_with fail
  refine (firstx_any X _ n l nt _ HL.out).mono ?_
  rw [HIX.out]
  rintro e1 w2 ⟨rfl, rfl⟩
  have c0 := HL.out.c0
  obtain ⟨g', c', hv, _, _, _, d3, _, _, _, df⟩ := HL.out.cells HE.out
  injection hv with hv1
  injection hv1 with hv1
  injection hv1 with hv1
  subst hv1
  have f3 := df (k * 7 + 3)
  clear df
  go_wp2_with fail
  go_ret
  have D := HL.out.setKeep rfl (failed e) (i := 3) (u := .int .i64 2) HE.out (by omega) rfl rfl rfl
  exact ⟨rfl, D.1, D.2⟩

theorem waitsx_any (X : Nat) (v n : Value) (l : List En) (nt : List Int) (w : World) (hl : LnxOf w X v n l nt) :
    Calls Try.prog 31 #[.pointer (some ⟨X, 0, none⟩)] w fun e w' => e = .returned (.int .i64 (l.countP isW : Nat)) ∧ w = w' := by
  obtain ⟨A, c, rfl⟩ := hl.form
  have hfew := hl.few
  have c0 := hl.c0
  have HL := Lib.hid hl
  clear hl
  go_enter Try.func31, Try.ntmps31
  go_wp2_with fail
  go_loop [3, 4] (fun n i => ∃ k m : Nat, k ≤ l.length ∧ i = .int .i64 k ∧ n = .int .i64 m ∧ m ≤ k ∧ Hid (m = (l.take k).countP isW)) (fun _ i => l.length - (intOf i).toNat)
  case atStart => exact ⟨0, 0, Nat.zero_le _, by first | rfl | simp, by first | rfl | simp, Nat.le_refl _, Lib.hid rfl⟩
  case round =>
    obtain ⟨k, m, hk, rfl, rfl, hm, HM⟩ := hrel
    by_cases hlt : k < l.length
    · obtain ⟨e, he⟩ : ∃ e, l[k]? = some e := ⟨l[k], List.getElem?_eq_getElem hlt⟩
      obtain ⟨g, cg, hv, d0, d1, d2, d3, _⟩ := HL.out.cells he
      injection hv with hv1 hv2 hv3
      subst hv1
      have HC := Lib.hid (count_succ l k e he)
      have hlt' : (k : Int) < ((l.length : Nat) : Int) := by omega
      clear hv2 hv3 he
      cases hw : isW e with
      | true =>
        have hs : (e.state == 0) = true := hw
        have HW := Lib.hid hw
        clear hw
        go_wp2_with fail
        go_round
        case rel => exact ⟨k + 1, m + 1, by omega, by first | rfl | simp, by first | rfl | simp, by omega, Lib.hid (by rw [HC.out, HW.out, ← HM.out]; rfl)⟩
        case measure => simp [intOf]; omega
      | false =>
        have hs : (e.state == 0) = false := hw
        have HW := Lib.hid hw
        clear hw
        go_wp2_with fail
        go_round
        case rel => exact ⟨k + 1, m, by omega, by first | rfl | simp, by first | rfl | simp, by omega, Lib.hid (by rw [HC.out, HW.out, ← HM.out]; rfl)⟩
        case measure => simp [intOf]; omega
    · obtain rfl : k = l.length := by omega
      go_wp2_with fail
      go_ret
      exact ⟨ret_i (by rw [HM.out, List.take_length]), rfl⟩

set_option maxRecDepth 100000 in
theorem ofx_in (X : Nat) (v n : Value) (l : List En) (nt : List Int) (k : Nat) (e : En) (t : Int) (w : World) (hl : LnxOf w X v n l nt) (he : l[k]? = some e) (hix : ixI (isT t) l = k) :
    Calls Try.prog 28 #[.pointer (some ⟨X, 0, none⟩), .int .i64 t] w fun e' w' => e' = .returned (.tuple #[reqV e e.gv, .bool true]) ∧ Pure w w' := by
  have hp1 := (Only.refl (fun _ => False) w).alloc (.cells #[.int .i64 0, .int .i64 0, .int .i64 0, .int .i64 0, .int .i64 0, .int .i64 0, .slice none 0 0] 28)
  have L1 := Lib.hid (hl.pure hp1)
  have P1 := Lib.hid hp1
  have HIX := Lib.hid hix
  have HE := Lib.hid he
  have hk := (List.getElem?_eq_some_iff.1 he).1
  have hfew := hl.few
  obtain ⟨g, c, rfl, _, _⟩ := hl.own.form (n := l.length) (by omega)
  have hk1 : (k : Int) < (l.length : Int) := by omega
  have HX := Lib.hid (heap_alloc_new w (.cells #[.int .i64 0, .int .i64 0, .int .i64 0, .int .i64 0, .int .i64 0, .int .i64 0, .slice none 0 0] 28))
  obtain ⟨G, gc, hgv, _⟩ := (hl.got e (List.mem_of_getElem? he)).1
  have HGV := Lib.hid hgv
  clear hl hp1 hix he hgv
  go_enter Try.func28, Try.ntmps28
  go_wp2_with fail
  generalize w.alloc (.cells #[.int .i64 0, .int .i64 0, .int .i64 0, .int .i64 0, .int .i64 0, .int .i64 0, .slice none 0 0] 28) = W1 at *
  refine (find_any X _ n l nt t _ L1.out).mono ?_
  rw [HIX.out]
  rintro e1 w2 ⟨rfl, rfl⟩
  have c0 := L1.out.c0
  obtain ⟨g', c', hv, d0, d1, d2, d3, d4, d5, d6, _⟩ := L1.out.cells HE.out
  injection hv with hv1
  injection hv1 with hv1
  injection hv1 with hv1
  subst hv1
  rw [HGV.out] at d6
  obtain ⟨x0, x1, x2, x3, x4, x5, x6, xf0, xf1, xf2, xf3, xf4, xf5, xf6⟩ := seven HX.out
  go_wp2_with fail
  rw [HGV.out]
  refine bodyPost_ret (v := .tuple #[reqV e (.slice G e.got.length gc), .bool true]) (by simp [results, Try.results28, go_sem, x0, x1, x2, x3, x4, x5, x6]) rfl ⟨rfl, ?_⟩
  have key : ∀ wf, Only (fun q => q = w.heap.size) W1 wf → Pure w wf := fun wf ho => P1.out.trans ho (fun i hi e => by omega)
  refine key _ ?_
  iterate 7 refine only_set ?_ _ _
  exact Only.refl _ W1

set_option maxRecDepth 100000 in
theorem ofx_no (X : Nat) (v n : Value) (l : List En) (nt : List Int) (t : Int) (w : World) (hl : LnxOf w X v n l nt) (hix : ixI (isT t) l = -1) :
    Calls Try.prog 28 #[.pointer (some ⟨X, 0, none⟩), .int .i64 t] w fun e' w' => e' = .returned (.tuple #[reqV default (.slice none 0 0), .bool false]) ∧ Pure w w' := by
  have hp1 := (Only.refl (fun _ => False) w).alloc (.cells #[.int .i64 0, .int .i64 0, .int .i64 0, .int .i64 0, .int .i64 0, .int .i64 0, .slice none 0 0] 28)
  have L1 := Lib.hid (hl.pure hp1)
  have P1 := Lib.hid hp1
  have HIX := Lib.hid hix
  have HX := Lib.hid (heap_alloc_new w (.cells #[.int .i64 0, .int .i64 0, .int .i64 0, .int .i64 0, .int .i64 0, .int .i64 0, .slice none 0 0] 28))
  clear hl hp1 hix
  go_enter Try.func28, Try.ntmps28
  go_wp2_with fail
  generalize w.alloc (.cells #[.int .i64 0, .int .i64 0, .int .i64 0, .int .i64 0, .int .i64 0, .int .i64 0, .slice none 0 0] 28) = W1 at *
  refine (find_any X _ n l nt t _ L1.out).mono ?_
  rw [HIX.out]
  rintro e1 w2 ⟨rfl, rfl⟩
  obtain ⟨x0, x1, x2, x3, x4, x5, x6, xf0, xf1, xf2, xf3, xf4, xf5, xf6⟩ := seven HX.out
  go_wp2_with fail
  refine bodyPost_ret (v := .tuple #[reqV default (.slice none 0 0), .bool false]) (by simp [results, Try.results28, go_sem, x0, x1, x2, x3, x4, x5, x6, default]) rfl ⟨rfl, ?_⟩
  have key : ∀ wf, Only (fun q => q = w.heap.size) W1 wf → Pure w wf := fun wf ho => P1.out.trans ho (fun i hi e => by omega)
  refine key _ ?_
  iterate 7 refine only_set ?_ _ _
  exact Only.refl _ W1

set_option maxRecDepth 100000 in
theorem firstx_in (X : Nat) (v n : Value) (l : List En) (nt : List Int) (k : Nat) (e : En) (w : World) (hl : LnxOf w X v n l nt) (he : l[k]? = some e) (hix : ixI isW l = k) :
    Calls Try.prog 29 #[.pointer (some ⟨X, 0, none⟩)] w fun e' w' => e' = .returned (.tuple #[reqV e e.gv, .bool true]) ∧ Pure w w' := by
  have hp1 := (Only.refl (fun _ => False) w).alloc (.cells #[.int .i64 0, .int .i64 0, .int .i64 0, .int .i64 0, .int .i64 0, .int .i64 0, .slice none 0 0] 28)
  have L1 := Lib.hid (hl.pure hp1)
  have P1 := Lib.hid hp1
  have HIX := Lib.hid hix
  have HE := Lib.hid he
  have hk := (List.getElem?_eq_some_iff.1 he).1
  have hfew := hl.few
  obtain ⟨g, c, rfl, _, _⟩ := hl.own.form (n := l.length) (by omega)
  have hk1 : (k : Int) < (l.length : Int) := by omega
  have HX := Lib.hid (heap_alloc_new w (.cells #[.int .i64 0, .int .i64 0, .int .i64 0, .int .i64 0, .int .i64 0, .int .i64 0, .slice none 0 0] 28))
  obtain ⟨G, gc, hgv, _⟩ := (hl.got e (List.mem_of_getElem? he)).1
  have HGV := Lib.hid hgv
  clear hl hp1 hix he hgv
  go_enter Try.func29, Try.ntmps29
  go_wp2_with fail
  generalize w.alloc (.cells #[.int .i64 0, .int .i64 0, .int .i64 0, .int .i64 0, .int .i64 0, .int .i64 0, .slice none 0 0] 28) = W1 at *
  refine (firstx_any X _ n l nt _ L1.out).mono ?_
  rw [HIX.out]
  rintro e1 w2 ⟨rfl, rfl⟩
  have c0 := L1.out.c0
  obtain ⟨g', c', hv, d0, d1, d2, d3, d4, d5, d6, _⟩ := L1.out.cells HE.out
  injection hv with hv1
  injection hv1 with hv1
  injection hv1 with hv1
  subst hv1
  rw [HGV.out] at d6
  obtain ⟨x0, x1, x2, x3, x4, x5, x6, xf0, xf1, xf2, xf3, xf4, xf5, xf6⟩ := seven HX.out
  go_wp2_with fail
  rw [HGV.out]
  refine bodyPost_ret (v := .tuple #[reqV e (.slice G e.got.length gc), .bool true]) (by simp [results, Try.results29, go_sem, x0, x1, x2, x3, x4, x5, x6]) rfl ⟨rfl, ?_⟩
  have key : ∀ wf, Only (fun q => q = w.heap.size) W1 wf → Pure w wf := fun wf ho => P1.out.trans ho (fun i hi e => by omega)
  refine key _ ?_
  iterate 7 refine only_set ?_ _ _
  exact Only.refl _ W1

set_option maxRecDepth 100000 in
theorem firstx_no (X : Nat) (v n : Value) (l : List En) (nt : List Int) (w : World) (hl : LnxOf w X v n l nt) (hix : ixI isW l = -1) :
    Calls Try.prog 29 #[.pointer (some ⟨X, 0, none⟩)] w fun e' w' => e' = .returned (.tuple #[reqV default (.slice none 0 0), .bool false]) ∧ Pure w w' := by
  have hp1 := (Only.refl (fun _ => False) w).alloc (.cells #[.int .i64 0, .int .i64 0, .int .i64 0, .int .i64 0, .int .i64 0, .int .i64 0, .slice none 0 0] 28)
  have L1 := Lib.hid (hl.pure hp1)
  have P1 := Lib.hid hp1
  have HIX := Lib.hid hix
  have HX := Lib.hid (heap_alloc_new w (.cells #[.int .i64 0, .int .i64 0, .int .i64 0, .int .i64 0, .int .i64 0, .int .i64 0, .slice none 0 0] 28))
  clear hl hp1 hix
  go_enter Try.func29, Try.ntmps29
  go_wp2_with fail
  generalize w.alloc (.cells #[.int .i64 0, .int .i64 0, .int .i64 0, .int .i64 0, .int .i64 0, .int .i64 0, .slice none 0 0] 28) = W1 at *
  refine (firstx_any X _ n l nt _ L1.out).mono ?_
  rw [HIX.out]
  rintro e1 w2 ⟨rfl, rfl⟩
  obtain ⟨x0, x1, x2, x3, x4, x5, x6, xf0, xf1, xf2, xf3, xf4, xf5, xf6⟩ := seven HX.out
  go_wp2_with fail
  refine bodyPost_ret (v := .tuple #[reqV default (.slice none 0 0), .bool false]) (by simp [results, Try.results29, go_sem, x0, x1, x2, x3, x4, x5, x6, default]) rfl ⟨rfl, ?_⟩
  have key : ∀ wf, Only (fun q => q = w.heap.size) W1 wf → Pure w wf := fun wf ho => P1.out.trans ho (fun i hi e => by omega)
  refine key _ ?_
  iterate 7 refine only_set ?_ _ _
  exact Only.refl _ W1


/-- Two requests with the same fields and the same numbers got are the same. -/
theorem same_any (a b : En) (A B : Option Addr) (n c m d : Nat) (w : World) (hab : a.thread = b.thread ∧ a.frags = b.frags ∧ a.spine = b.spine ∧ a.state = b.state ∧ a.cycles = b.cycles ∧ a.at_ = b.at_) (xs : List Int) (ha : SlI w w.heap.size (.slice A n c) xs) (hb : SlI w w.heap.size (.slice B m d) xs) :
    Calls Try.prog 30 #[reqV a (.slice A n c), reqV b (.slice B m d)] w fun e w' => e = .returned (.bool true) ∧ Pure w w' := by
  obtain ⟨h0, h1, h2, h3, h4, h5⟩ := hab
  dsimp only [reqV]
  rw [h0, h1, h2, h3, h4, h5]
  clear h0 h1 h2 h3 h4 h5
  have hp := ((Only.refl (fun _ => False) w).alloc (.cells #[.int .i64 b.thread, .int .i64 b.frags, .int .i64 b.spine, .int .i64 b.state, .int .i64 b.cycles, .int .i64 b.at_, .slice A n c] 28)).alloc (.cells #[.int .i64 b.thread, .int .i64 b.frags, .int .i64 b.spine, .int .i64 b.state, .int .i64 b.cycles, .int .i64 b.at_, .slice B m d] 28)
  have HA := Lib.hid (ha.only hp (fun _ _ f => f))
  have HB := Lib.hid (hb.only hp (fun _ _ f => f))
  have HP := Lib.hid hp
  clear ha hb hp
  go_enter Try.func30, Try.ntmps30
  go_wp2_with fail
  refine (ints_any _ _ xs xs _ HA.out HB.out).mono ?_
  rw [sameI_self]
  rintro e9 w9 ⟨rfl, d9, rfl⟩
  go_wp2_with fail
  go_ret
  exact ⟨rfl, HP.out.drewN _⟩

end Go.Proofs.Ytmpomkejmokdlaa
