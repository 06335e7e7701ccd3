/-
  What a line of requests is in memory; contracts of line.New and of the line's looks: of, first, at, Of, First, Waits.
-/
import Derived.Test.YtmpomkejmokdlaaInts
namespace Go.Proofs.Ytmpomkejmokdlaa
open Go.RowKit

/-- An entry: its request, its slice's value, whether it was noted. -/
structure En where
  thread : Int
  frags : Int
  spine : Int
  state : Int
  cycles : Int
  at_ : Int
  gv : Value
  got : List Int
  noted : Bool
instance : Inhabited En := ⟨⟨0, 0, 0, 0, 0, 0, .slice none 0 0, [], false⟩⟩
abbrev enV (e : En) (g : Value) : Value := .agg #[.int .i64 e.thread, .int .i64 e.frags, .int .i64 e.spine, .int .i64 e.state, .int .i64 e.cycles, .int .i64 e.at_, g, .bool e.noted]
abbrev reqV (e : En) (g : Value) : Value := .agg #[.int .i64 e.thread, .int .i64 e.frags, .int .i64 e.spine, .int .i64 e.state, .int .i64 e.cycles, .int .i64 e.at_, g]
def enCells (e : En) : List Value := [.int .i64 e.thread, .int .i64 e.frags, .int .i64 e.spine, .int .i64 e.state, .int .i64 e.cycles, .int .i64 e.at_, e.gv, .bool e.noted]
def ens (l : List En) : List Value := l.flatMap enCells
theorem ens_length (l : List En) : (ens l).length = l.length * 8 := by
  induction l with
  | nil => rfl
  | cons e l ih => simp [ens, enCells] at ih ⊢; omega
theorem ens_append (l m : List En) : ens (l ++ m) = ens l ++ ens m := by simp [ens]
theorem ens_get (l : List En) (j i : Nat) (e : En) (h : l[j]? = some e) (hi : i < 8) : (ens l)[j * 8 + i]? = (enCells e)[i]? := by
  induction l generalizing j with
  | nil => simp at h
  | cons t l ih =>
    cases j with
    | zero =>
      simp at h; subst h
      have hl : (enCells t).length = 8 := rfl
      simp only [ens, List.flatMap_cons, Nat.zero_mul, Nat.zero_add]
      rw [List.getElem?_append_left (by omega)]
    | succ j =>
      have := ih j (by simpa using h)
      have hl : (enCells t).length = 8 := rfl
      simp only [ens, List.flatMap_cons] at this ⊢
      rw [List.getElem?_append_right (by omega), hl, show (j + 1) * 8 + i - 8 = j * 8 + i from by omega]
      exact this
theorem ens_take (l : List En) (k : Nat) : (ens l).take (k * 8) = ens (l.take k) := by
  induction l generalizing k with
  | nil => simp [ens]
  | cons t l ih =>
    cases k with
    | zero => simp [ens]
    | succ k =>
      have hl : (enCells t).length = 8 := rfl
      have := ih k
      simp only [ens, List.flatMap_cons, List.take_succ_cons] at this ⊢
      rw [List.take_append, hl, show (k + 1) * 8 - 8 = k * 8 from by omega, this, List.take_of_length_le (by omega)]
theorem ens_drop (l : List En) (k : Nat) : (ens l).drop (k * 8) = ens (l.drop k) := by
  induction l generalizing k with
  | nil => simp [ens]
  | cons t l ih =>
    cases k with
    | zero => simp [ens]
    | succ k =>
      have hl : (enCells t).length = 8 := rfl
      have := ih k
      simp only [ens, List.flatMap_cons, List.drop_succ_cons] at this ⊢
      rw [List.drop_append, hl, show (k + 1) * 8 - 8 = k * 8 from by omega, this, List.drop_of_length_le (by omega), List.nil_append]

/-- What a line in block P with the slice v may change. -/
def LineS (P : Nat) (v : Value) (k : Nat) : Prop := k = P ∨ v.ownBlock = some k
/-- A line in block P that holds the entries l. -/
structure LineOf (w : World) (P : Nat) (v : Value) (l : List En) : Prop where
  at_ : w.heap[P]? = some (.cells #[v] 50 (0, 0))
  own : w.ownsRow 0 53 8 v l.length (ens l)
  got : ∀ e ∈ l, SlI w w.heap.size e.gv e.got ∧ ∀ q, e.gv.ownBlock = some q → ¬ LineS P v q ∧ q < w.heap.size
  few : l.length ≤ 1000
  short : ∀ e ∈ l, e.got.length ≤ 100000

section
variable {w w' : World} {P : Nat} {v : Value} {l : List En}
theorem LineOf.lt (h : LineOf w P v l) : ∀ k, LineS P v k → k < w.heap.size := fun k hk => by
  rcases hk with rfl | hk
  · exact (Array.getElem?_eq_some_iff.1 h.at_).1
  · exact (h.own.lt k hk).2
theorem LineOf.c0 (h : LineOf w P v l) : w.cell? ⟨P, 0, none⟩ = some v := by rw [cell_of_row w P 0 _ _ _ h.at_]; rfl
theorem LineOf.f0 (h : LineOf w P v l) : w.frozen? ⟨P, 0, none⟩ = false := frozen_of_row w P 0 _ _ h.at_
theorem LineOf.form (h : LineOf w P v l) : ∃ A c, v = .slice A l.length c := own_form h.own
/-- Kept by whatever leaves its blocks and its requests' slices alone. -/
theorem LineOf.only {S : Nat → Prop} (h : LineOf w P v l) (ho : Only S w w') (hn : ∀ k, LineS P v k → ¬ S k) (hg : ∀ e ∈ l, ∀ q, e.gv.ownBlock = some q → ¬ S q) : LineOf w' P v l :=
  ⟨(ho.block P (Array.getElem?_eq_some_iff.1 h.at_).1 (hn P (.inl rfl))).trans h.at_, ho.own h.own (fun k hk => hn k (.inr hk)),
    fun e he => ⟨(h.got e he).1.only ho (hg e he), fun q hq => ⟨((h.got e he).2 q hq).1, Nat.lt_of_lt_of_le ((h.got e he).2 q hq).2 ho.size⟩⟩, h.few, h.short⟩
theorem LineOf.pure (h : LineOf w P v l) (hp : Pure w w') : LineOf w' P v l := h.only hp (fun _ _ f => f) (fun _ _ _ _ f => f)
/-- The cells of an entry. -/
theorem LineOf.cells (h : LineOf w P v l) {j : Nat} {e : En} (he : l[j]? = some e) : ∃ g c, v = .slice (some ⟨g, 0, none⟩) l.length c ∧ w.cell? ⟨g, j * 8, none⟩ = some (.int .i64 e.thread) ∧ w.cell? ⟨g, j * 8 + 1, none⟩ = some (.int .i64 e.frags) ∧ w.cell? ⟨g, j * 8 + 2, none⟩ = some (.int .i64 e.spine) ∧
    w.cell? ⟨g, j * 8 + 3, none⟩ = some (.int .i64 e.state) ∧ w.cell? ⟨g, j * 8 + 4, none⟩ = some (.int .i64 e.cycles) ∧ w.cell? ⟨g, j * 8 + 5, none⟩ = some (.int .i64 e.at_) ∧ w.cell? ⟨g, j * 8 + 6, none⟩ = some e.gv ∧ w.cell? ⟨g, j * 8 + 7, none⟩ = some (.bool e.noted) ∧ ∀ q, w.frozen? ⟨g, q, none⟩ = false := by
  have hj := (List.getElem?_eq_some_iff.1 he).1
  obtain ⟨g, c, hv, _, _⟩ := h.own.form (n := l.length) (by omega)
  subst hv
  have key : ∀ i, i < 8 → w.cell? ⟨g, j * 8 + i, none⟩ = (enCells e)[i]? := fun i hi => (h.own.cellAt (j * 8 + i) (by omega)).trans (ens_get l j i e he hi)
  exact ⟨g, c, rfl, key 0 (by omega), key 1 (by omega), key 2 (by omega), key 3 (by omega), key 4 (by omega), key 5 (by omega), key 6 (by omega), key 7 (by omega), fun q => h.own.frozenAt q⟩
end

/-- The place of the first that answers; -1: none does. -/
def ixI (p : En → Bool) (l : List En) : Int := if l.findIdx p < l.length then (l.findIdx p : Int) else -1
theorem ixI_at {p : En → Bool} {l : List En} {k : Nat} {e : En} (he : l[k]? = some e) (hp : p e = true) (hall : ∀ j, j < k → ∀ t, l[j]? = some t → p t = false) : ixI p l = k := by
  obtain ⟨hk, hek⟩ := List.getElem?_eq_some_iff.1 he
  have : l.findIdx p = k := by
    rw [List.findIdx_eq hk]
    refine ⟨by rw [hek]; exact hp, fun j hj => hall j hj _ (List.getElem?_eq_getElem _)⟩
  rw [ixI, this, if_pos hk]
theorem ixI_none {p : En → Bool} {l : List En} (hall : ∀ (j : Nat) (t : En), l[j]? = some t → p t = false) : ixI p l = -1 := by
  rw [ixI, if_neg]
  intro h
  have := List.findIdx_getElem (w := h)
  rw [hall _ _ (List.getElem?_eq_getElem h)] at this
  cases this
theorem ixI_bd (p : En → Bool) (l : List En) : -1 ≤ ixI p l ∧ ixI p l < l.length := by
  unfold ixI
  split <;> omega
def isT (t : Int) (e : En) : Bool := e.thread == t
def isW (e : En) : Bool := e.state == 0

theorem of1_any (e : En) (A : Option Addr) (n c : Nat) (b : Nat) (t : Int) (w : World) (hc : w.cell? ⟨b, 0, none⟩ = some (.int .i64 t)) :
    Calls Try.prog 40 #[enV e (.slice A n c), .pointer (some ⟨b, 0, none⟩)] w fun e' w' => e' = .returned (.bool (isT t e)) ∧ Pure w w' := by
  have hc' := Pure.keep ((Only.refl (fun _ => False) w).alloc (.cells #[.int .i64 e.thread, .int .i64 e.frags, .int .i64 e.spine, .int .i64 e.state, .int .i64 e.cycles, .int .i64 e.at_, .slice A n c, .bool e.noted] 53)) hc
  go_enter Try.func40, Try.ntmps40
  go_wp2_with fail
  go_ret
  exact ⟨rfl, (Only.refl _ _).alloc _⟩
theorem first1_any (e : En) (A : Option Addr) (n c : Nat) (w : World) :
    Calls Try.prog 41 #[enV e (.slice A n c)] w fun e' w' => e' = .returned (.bool (isW e)) ∧ Pure w w' := by
  go_enter Try.func41, Try.ntmps41
  go_wp2_with fail
  go_ret
  exact ⟨rfl, (Only.refl _ _).alloc _⟩

theorem index_of (P : Nat) (v : Value) (l : List En) (b : Nat) (t : Int) (w : World) (hl : LineOf w P v l) (hc : w.cell? ⟨b, 0, none⟩ = some (.int .i64 t)) :
    Calls Try.prog 39 #[v, .func (.func 40) #[] #[.pointer (some ⟨b, 0, none⟩)]] w fun e w' => e = .returned (.int .i64 (ixI (isT t) l)) ∧ Pure w w' := by
  have HL := Lib.hid (fun (w' : World) (hp : Pure w w') => hl.pure hp)
  obtain ⟨A, c, rfl⟩ := hl.form
  have hfew := hl.few
  clear hl
  go_enter Try.func39, Try.ntmps39
  go_wp2_with fail
  go_loopw [8] (fun i wr => ∃ k : Nat, k ≤ l.length ∧ i = .int .i64 k ∧ (∀ j, j < k → ∀ u, l[j]? = some u → (isT t) u = false) ∧ Pure w wr) (fun i _ => l.length - (intOf i).toNat)
  case atStart => exact ⟨0, Nat.zero_le _, rfl, (by omega), Only.refl _ _⟩
  case round =>
    obtain ⟨k, hk, rfl, hall, hp⟩ := hrel
    have HALL := Lib.hid hall
    have HP := Lib.hid hp
    clear hall hp
    by_cases hlt : k < l.length
    · obtain ⟨e, he⟩ : ∃ e, l[k]? = some e := ⟨l[k], List.getElem?_eq_getElem hlt⟩
      obtain ⟨g, cg, hv, d0, d1, d2, d3, d4, d5, d6, d7, _⟩ := (HL.out _ HP.out).cells he
      injection hv with hv1 hv2 hv3
      subst hv1
      have HE := Lib.hid he
      clear he hv2 hv3
      obtain ⟨G, gc, hgv, _⟩ := ((HL.out _ HP.out).got e (List.mem_of_getElem? HE.out)).1
      rw [hgv] at d6
      have HGV := Lib.hid hgv
      clear hgv
      cases hm : (isT t) e with
      | true =>
        have HM := Lib.hid hm
        go_wp2_with fail
        refine (of1_any e _ _ _ b t _ (HP.out.keep hc)).mono ?_
        rw [HM.out]
        rintro e1 w1 ⟨rfl, hp1⟩
        have P1 := Lib.hid (HP.out.then hp1)
        clear hp1 hm
        go_wp2_with fail
        go_ret
        exact ⟨ret_i (ixI_at HE.out HM.out HALL.out), P1.out⟩
      | false =>
        have HM := Lib.hid hm
        go_wp2_with fail
        refine (of1_any e _ _ _ b t _ (HP.out.keep hc)).mono ?_
        rw [HM.out]
        rintro e1 w1 ⟨rfl, hp1⟩
        have P1 := Lib.hid (HP.out.then hp1)
        clear hp1 hm
        go_wp2_with fail
        go_roundw
        case rel =>
          refine ⟨k + 1, by omega, by first | rfl | simp, ?_, P1.out⟩
          intro j hj u hu
          by_cases e' : j < k
          · exact HALL.out j e' u hu
          · obtain rfl : j = k := by omega
            rw [HE.out] at hu
            cases hu
            exact HM.out
        case measure => simp [intOf]; omega
    · obtain rfl : k = l.length := by omega
      go_wp2_with fail
      go_ret
      refine ⟨ret_i (ixI_none fun j t ht => HALL.out j (List.getElem?_eq_some_iff.1 ht).1 t ht), HP.out⟩

theorem index_first (P : Nat) (v : Value) (l : List En) (w : World) (hl : LineOf w P v l) :
    Calls Try.prog 39 #[v, .func (.func 41) #[] #[]] w fun e w' => e = .returned (.int .i64 (ixI isW l)) ∧ Pure w w' := by
  have HL := Lib.hid (fun (w' : World) (hp : Pure w w') => hl.pure hp)
  obtain ⟨A, c, rfl⟩ := hl.form
  have hfew := hl.few
  clear hl
  go_enter Try.func39, Try.ntmps39
  go_wp2_with fail
  go_loopw [8] (fun i wr => ∃ k : Nat, k ≤ l.length ∧ i = .int .i64 k ∧ (∀ j, j < k → ∀ u, l[j]? = some u → isW u = false) ∧ Pure w wr) (fun i _ => l.length - (intOf i).toNat)
  case atStart => exact ⟨0, Nat.zero_le _, rfl, (by omega), Only.refl _ _⟩
  case round =>
    obtain ⟨k, hk, rfl, hall, hp⟩ := hrel
    have HALL := Lib.hid hall
    have HP := Lib.hid hp
    clear hall hp
    by_cases hlt : k < l.length
    · obtain ⟨e, he⟩ : ∃ e, l[k]? = some e := ⟨l[k], List.getElem?_eq_getElem hlt⟩
      obtain ⟨g, cg, hv, d0, d1, d2, d3, d4, d5, d6, d7, _⟩ := (HL.out _ HP.out).cells he
      injection hv with hv1 hv2 hv3
      subst hv1
      have HE := Lib.hid he
      clear he hv2 hv3
      obtain ⟨G, gc, hgv, _⟩ := ((HL.out _ HP.out).got e (List.mem_of_getElem? HE.out)).1
      rw [hgv] at d6
      have HGV := Lib.hid hgv
      clear hgv
      cases hm : isW e with
      | true =>
        have HM := Lib.hid hm
        go_wp2_with fail
        refine (first1_any e _ _ _ _).mono ?_
        rw [HM.out]
        rintro e1 w1 ⟨rfl, hp1⟩
        have P1 := Lib.hid (HP.out.then hp1)
        clear hp1 hm
        go_wp2_with fail
        go_ret
        exact ⟨ret_i (ixI_at HE.out HM.out HALL.out), P1.out⟩
      | false =>
        have HM := Lib.hid hm
        go_wp2_with fail
        refine (first1_any e _ _ _ _).mono ?_
        rw [HM.out]
        rintro e1 w1 ⟨rfl, hp1⟩
        have P1 := Lib.hid (HP.out.then hp1)
        clear hp1 hm
        go_wp2_with fail
        go_roundw
        case rel =>
          refine ⟨k + 1, by omega, by first | rfl | simp, ?_, P1.out⟩
          intro j hj u hu
          by_cases e' : j < k
          · exact HALL.out j e' u hu
          · obtain rfl : j = k := by omega
            rw [HE.out] at hu
            cases hu
            exact HM.out
        case measure => simp [intOf]; omega
    · obtain rfl : k = l.length := by omega
      go_wp2_with fail
      go_ret
      refine ⟨ret_i (ixI_none fun j t ht => HALL.out j (List.getElem?_eq_some_iff.1 ht).1 t ht), HP.out⟩

end Go.Proofs.Ytmpomkejmokdlaa
