/-
  Contracts of the document's line: Grant, Drop, Begin, End.
-/
import Derived.Test.YtmpomkejmokdlaaLnx2
namespace Go.Proofs.Ytmpomkejmokdlaa
open Go.RowKit

theorem drew_pure (w : World) : Pure w w.drew := (Only.refl _ w).drewN 1


theorem grantx_no (X : Nat) (v n : Value) (l : List En) (nt : List Int) (A : Option Addr) (m c : Nat) (at_ : Int) (w : World) (hl : LnxOf w X v n l nt) (hix : ixI isW l = -1) :
    Calls Try.prog 23 #[.pointer (some ⟨X, 0, none⟩), .slice A m c, .int .i64 at_] w fun e' w' => e' = .returned (.bool false) ∧ Pure w w' := by
  have HL := Lib.hid hl
  have HIX := Lib.hid hix
  clear hl hix
  go_enter Try.func23, Try.ntmps23
  go_wp2_with fail
  refine (firstx_any X v n l nt _ HL.out).mono ?_
  rw [HIX.out]
  rintro e1 w2 ⟨rfl, rfl⟩
  go_wp2_with fail
  go_ret
  exact ⟨rfl, Only.refl _ _⟩

set_option maxRecDepth 100000 in
set_option maxHeartbeats 1000000 in
theorem grantx_yes (X : Nat) (v n : Value) (l : List En) (nt : List Int) (k : Nat) (e : En) (u : Value) (xs : List Int) (at_ : Int) (w : World) (hl : LnxOf w X v n l nt) (he : l[k]? = some e) (hix : ixI isW l = k) (hs : SlI w w.heap.size u xs) (hx : xs.length ≤ 100000) :
    Calls Try.prog 23 #[.pointer (some ⟨X, 0, none⟩), u, .int .i64 at_] w fun e' w' => ∃ gv, e' = .returned (.bool true) ∧ LnxOf w' X v n (l.set k (granted e gv xs at_)) nt ∧ Only (LnxS X v n) w w' ∧ ∀ q, gv.ownBlock = some q → w.heap.size ≤ q := by
  have hk := (List.getElem?_eq_some_iff.1 he).1
  obtain ⟨g, c, rfl, _, _⟩ := hl.own.form (n := l.length) (by omega)
  obtain ⟨AU, cU, rfl, _, _⟩ := hs.len
  have HS := Lib.hid hs
  have HL := Lib.hid hl
  have HIX := Lib.hid hix
  have HE := Lib.hid he
  have HRNG := Lib.hid (show ∀ x ∈ xs, -9223372036854775808 ≤ x ∧ x ≤ 9223372036854775807 from by obtain ⟨_, _, _, _, _, h, _⟩ := hs; exact h)
  have hfew := hl.few
  have hk1 : (k : Int) < (l.length : Int) := by omega
  clear hl hix he hs
  go_enter Try.func23, Try.ntmps23
  go_wp2_with fail
  refine (firstx_any X _ n l nt _ HL.out).mono ?_
  rw [HIX.out]
  rintro e1 w2 ⟨rfl, rfl⟩
  have c0 := HL.out.c0
  have hk0 : (0 : Int) ≤ (k : Int) := by omega
  have hne : g ≠ X := row_ne HL.out.at_ HL.out.own (by decide) rfl
  have hne' : X ≠ g := hne.symm
  go_wp2_with fail
  go_region_held3 (fun w' => w'.cell? ⟨X, 0, none⟩ = some (.slice (some ⟨g, 0, none⟩) l.length c)) (first | go_keep | assumption)
    (first
      | (go_at_call 19; refine (copy_any _ xs _ (HS.out.only (drew_pure w) (fun _ _ f => f)) (by omega)).mono ?_; rintro e3 w3 ⟨v3, rfl, hp3, ho3⟩; obtain ⟨A3, c3, rfl⟩ := own_form ho3; have P3 := Lib.hid (Pure.then (drew_pure w) hp3); have L3 := Lib.hid (HL.out.pure P3.out); have hs := L3.out.c0; have O3 := Lib.hid ho3; obtain ⟨g', c', hv, _, _, _, d3, _, d5, d6, df⟩ := L3.out.cells HE.out; injection hv with hv1; injection hv1 with hv1; injection hv1 with hv1; subst hv1; obtain ⟨G, gc, hgv, _⟩ := (L3.out.got e (List.mem_of_getElem? HE.out)).1; rw [hgv] at d6; have f3 := df (k * 7 + 3); have f5 := df (k * 7 + 5); have f6 := df (k * 7 + 6); clear hp3 ho3 df hgv c0))
  all_goals
    go_wp2_with fail
    go_ret
    have S3 : SlI w3 w3.heap.size (.slice A3 xs.length c3) xs := SlI.of_own O3.out HRNG.out
    have hq : ∀ q, (Value.slice A3 xs.length c3).ownBlock = some q → ¬ LnxS X (.slice (some ⟨g, 0, none⟩) l.length c) n q ∧ w.heap.size ≤ q := fun q h => by
      have h1 := (O3.out.lt q h).1
      exact ⟨fun hS => by have := HL.out.lt q hS; simp at h1; omega, by simpa using h1⟩
    have key : ∀ w' : World, Only (LnxS X (.slice (some ⟨g, 0, none⟩) l.length c) n) w3 w' → SlI w' w'.heap.size (.slice A3 xs.length c3) xs ∧ ∀ q, (Value.slice A3 xs.length c3).ownBlock = some q → ¬ LnxS X (.slice (some ⟨g, 0, none⟩) l.length c) n q ∧ q < w'.heap.size :=
      fun w' ho => ⟨S3.only ho (fun q h => (hq q h).1), fun q h => ⟨(hq q h).1, Nat.lt_of_lt_of_le (O3.out.lt q h).2 ho.size⟩⟩
    have D1 := L3.out.setKeep rfl { e with state := 1 } (i := 3) (u := .int .i64 1) HE.out (by omega) rfl rfl rfl
    have D2 := D1.1.set (e := { e with state := 1 }) (by rw [List.length_set]) { e with state := 1, gv := .slice A3 xs.length c3, got := xs } (i := 6) (u := .slice A3 xs.length c3) (by rw [List.getElem?_set_self hk]) (by omega) rfl (key _ D1.2) hx
    have D3 := D2.1.setKeep (e := { e with state := 1, gv := .slice A3 xs.length c3, got := xs }) (by rw [List.length_set, List.length_set]) (granted e (.slice A3 xs.length c3) xs at_) (i := 5) (u := .int .i64 at_) (by rw [List.getElem?_set_self (by rw [List.length_set]; exact hk)]) (by omega) rfl rfl rfl
    rw [List.set_set, List.set_set] at D3
    exact ⟨_, rfl, D3.1, ((P3.out.mono (fun _ _ f => f.elim)).trans D1.2 (fun _ _ h => h)).trans (D2.2.trans D3.2 (fun _ _ h => h)) (fun _ _ h => h), fun q h => (hq q h).2⟩


/-- A cycle more for those that wait and were noted. -/
def tickx (nt : List Int) (e : En) : En := { e with cycles := if isW e = true ∧ hasI nt e.thread = true then e.cycles + 1 else e.cycles }
theorem quiet_l {P : Program} {f : FuncId} {args : Array Value} {w : World} {n : Nat} {v : Value} (h : Calls P f args (w.drewN n) fun e w' => e = .returned v ∧ w.drewN n = w') : Calls P f args (w.drewN n) fun e w'' => e = .returned v ∧ ∃ m, w'' = w.drewN m :=
  h.mono fun _ _ ⟨he, hm⟩ => ⟨he, n, hm.symm⟩

theorem set_self {l : List En} {k : Nat} {e : En} (h : l[k]? = some e) : l.set k e = l := by
  obtain ⟨hk, rfl⟩ := List.getElem?_eq_some_iff.1 h
  exact List.set_getElem_self hk
/-- The noted threads are others now. -/
theorem LnxOf.noted {w : World} {X : Nat} {v n n2 : Value} {l : List En} {nt nt2 : List Int} (h : LnxOf w X v n l nt) (hn : w.ownsRow 0 3 1 n2 nt2.length (ints nt2)) (hr : InR nt2) (hg : ∀ e ∈ l, ∀ q, e.gv.ownBlock = some q → n2.ownBlock ≠ some q) :
    LnxOf (w.setCell ⟨X, 1, none⟩ n2) X v n2 l nt2 ∧ Only (LnxS X v n) w (w.setCell ⟨X, 1, none⟩ n2) := by
  have ho : Only (fun q => q = X) w (w.setCell ⟨X, 1, none⟩ n2) := only_set (Only.refl _ w) 1 n2
  have hoS : Only (LnxS X v n) w (w.setCell ⟨X, 1, none⟩ n2) := ho.mono (fun q _ e => .inl e)
  refine ⟨⟨by simp [World.setCell, Array.getElem?_modify, h.at_], ho.own h.own (fun k hk => row_ne h.at_ h.own (by decide) hk), ho.own hn (fun k hk => row_ne h.at_ hn (by decide) hk), hr, fun e he => ?_, h.few, h.short⟩, hoS⟩
  refine ⟨(h.got e he).1.only hoS (fun q hq => ((h.got e he).2 q hq).1), fun q hq => ⟨?_, Nat.lt_of_lt_of_le ((h.got e he).2 q hq).2 hoS.size⟩⟩
  rintro (e' | e' | e')
  · exact ((h.got e he).2 q hq).1 (.inl e')
  · exact ((h.got e he).2 q hq).1 (.inr (.inl e'))
  · exact hg e he q hq e'

set_option maxRecDepth 100000 in
set_option maxHeartbeats 1000000 in
theorem endx_any (X : Nat) (v n : Value) (l : List En) (nt : List Int) (w : World) (hl : LnxOf w X v n l nt) (hcy : ∀ e ∈ l, 0 ≤ e.cycles ∧ e.cycles ≤ 100000) :
    Calls Try.prog 27 #[.pointer (some ⟨X, 0, none⟩)] w fun e' w' => e' = .returned (.tuple #[]) ∧ LnxOf w' X v (.slice none 0 0) (l.map (tickx nt)) [] ∧ Only (LnxS X v n) w w' := by
  obtain ⟨A, c, rfl⟩ := hl.form
  obtain ⟨AN, cN, rfl⟩ := own_form hl.nown
  have HL := Lib.hid hl
  have HCY := Lib.hid hcy
  have hfew := hl.few
  clear hl hcy
  go_enter Try.func27, Try.ntmps27
  go_wp2_with fail
  go_loopw [2] (fun i wr => ∃ k : Nat, k ≤ l.length ∧ i = .int .i64 k ∧ LnxOf wr X (.slice A l.length c) (.slice AN nt.length cN) (upd (tickx nt) k l) nt ∧ Only (LnxS X (.slice A l.length c) (.slice AN nt.length cN)) w wr) (fun i _ => l.length - (intOf i).toNat)
  case atStart => exact ⟨0, Nat.zero_le _, by first | rfl | simp, by rw [upd_zero]; exact HL.out, Only.refl _ _⟩
  case round =>
    obtain ⟨k, hk, rfl, hl, ho⟩ := hrel
    have LR := Lib.hid hl
    have HO := Lib.hid ho
    have c0 := hl.c0
    have c1 := hl.c1
    clear hl ho
    by_cases hlt : k < l.length
    · have HG := Lib.hid (upd_get (tickx nt) k l hlt)
      have HS := Lib.hid (upd_succ (tickx nt) k l hlt)
      obtain ⟨hc1, hc2⟩ := HCY.out l[k] (List.getElem_mem hlt)
      obtain ⟨g', cc, hv, d0, _, _, d3, d4, _, _, df⟩ := LR.out.cells HG.out
      injection hv with hv1 hv2 hv3
      subst hv1
      have f4 := df (k * 7 + 4)
      clear df hv2 hv3
      generalize l[k] = e at *
      have hk1 : (k : Int) < (l.length : Int) := by omega
      have hk0 : (0 : Int) ≤ (k : Int) := by omega
      have SN := Lib.hid (fun (w' : World) (hp : Pure wr w') => (LR.out.sl).only hp (fun _ _ f => f))
      cases hw : isW e with
      | false =>
        have HN := Lib.hid (show tickx nt e = e from by simp [tickx, hw])
        have hst : (e.state == 0) = false := hw
        clear hw
        go_wp2_with fail
        go_quiet (fail)
        go_wp2_with fail
        go_roundw
        case rel => exact ⟨k + 1, by omega, by go_num, by
          have h1 := HS.out
          rw [HN.out, set_self HG.out] at h1
          rw [← h1]
          exact LR.out.pure ((Only.refl _ _).drewN _), HO.out.drewN _⟩
        case measure => simp [intOf]; omega
      | true =>
        have hst : (e.state == 0) = true := hw
        cases hh : hasI nt e.thread with
        | false =>
          have HN := Lib.hid (show tickx nt e = e from by simp [tickx, hh])
          have HH := Lib.hid (fun (w' : World) (hp : Pure wr w') => show Calls Try.prog 21 #[.slice AN nt.length cN, .int .i64 e.thread] w' fun e' w'' => e' = .returned (.bool false) ∧ w' = w'' from by have := has_any _ nt e.thread w' (SN.out w' hp); rwa [hh] at this)
          clear hw hh
          go_wp2_with fail
          go_quiet ((go_at_call 21; exact quiet_l (HH.out _ ((Only.refl _ _).drewN _))))
          go_wp2_with fail
          go_roundw
          case rel => exact ⟨k + 1, by omega, by go_num, by
            have h1 := HS.out
            rw [HN.out, set_self HG.out] at h1
            rw [← h1]
            exact LR.out.pure ((Only.refl _ _).drewN _), HO.out.drewN _⟩
          case measure => simp [intOf]; omega
        | true =>
          have HN := Lib.hid (show tickx nt e = { e with cycles := e.cycles + 1 } from by simp [tickx, hh, hw])
          have HH := Lib.hid (fun (w' : World) (hp : Pure wr w') => show Calls Try.prog 21 #[.slice AN nt.length cN, .int .i64 e.thread] w' fun e' w'' => e' = .returned (.bool true) ∧ w' = w'' from by have := has_any _ nt e.thread w' (SN.out w' hp); rwa [hh] at this)
          clear hw hh
          go_wp2_with fail
          go_quiet ((go_at_call 21; exact quiet_l (HH.out _ ((Only.refl _ _).drewN _))))
          go_wp2_with fail
          have D := (LR.out.pure ((Only.refl (fun _ => False) wr).drewN nq)).setKeep (by rw [upd_len]) (tickx nt e) (i := 4) (u := .int .i64 (e.cycles + 1)) HG.out (by omega) (by rw [HN.out]; rfl) (by rw [HN.out]) (by rw [HN.out])
          rw [HS.out] at D
          go_roundw
          case rel => exact ⟨k + 1, by omega, by go_num, D.1, (HO.out.drewN nq).trans D.2 (fun _ _ h => h)⟩
          case measure => simp [intOf]; omega
    · obtain rfl : k = l.length := by omega
      have f1 := LR.out.f0 1
      go_wp2_with fail
      go_end0
      have L2 := LR.out
      rw [upd_all] at L2
      have D := L2.noted (n2 := .slice none 0 0) (nt2 := []) (World.ownsRow_nil _ _ _ _) (fun x hx => by simp at hx) (fun e he q hq => by simp [Value.ownBlock])
      exact ⟨rfl, D.1, HO.out.trans D.2 (fun _ _ h => h)⟩


/-- Parts of a row of requests. -/
theorem src_rqs {w : World} {base : Nat} {e : TypeId} {g c : Nat} {l : List En} (h : w.ownsRow base e 7 (.slice (some ⟨g, 0, none⟩) l.length c) l.length (rqs l)) (k m : Nat) (hkm : k + m ≤ l.length) : Src w 7 (some ⟨g, k * 7, none⟩) m (rqs ((l.drop k).take m)) := by
  refine ⟨by rw [rqs_length, List.length_take, List.length_drop, Nat.min_eq_left (by omega)], fun _ => ⟨g, k * 7, rfl, fun j u hu => ?_⟩⟩
  have hj := (List.getElem?_eq_some_iff.1 hu).1
  rw [rqs_length, List.length_take, List.length_drop, Nat.min_eq_left (by omega)] at hj
  rw [h.cellAt (k * 7 + j) (by omega)]
  rw [← rqs_take, ← rqs_drop, List.getElem?_take, List.getElem?_drop, if_pos (by omega)] at hu
  exact hu
theorem src_rqs_front {w : World} {base : Nat} {e : TypeId} {g c : Nat} {l : List En} (h : w.ownsRow base e 7 (.slice (some ⟨g, 0, none⟩) l.length c) l.length (rqs l)) (k : Nat) (hk : k ≤ l.length) : Src w 7 (some ⟨g, 0, none⟩) k (rqs (l.take k)) := by
  simpa using src_rqs h 0 k (by omega)
theorem src_rqs_behind {w : World} {base : Nat} {e : TypeId} {g c : Nat} {l : List En} (h : w.ownsRow base e 7 (.slice (some ⟨g, 0, none⟩) l.length c) l.length (rqs l)) (k : Nat) (hk : k ≤ l.length) (hc : l.length ≤ c) :
    Src w 7 (if c = k then some ⟨g, 0, none⟩ else some ⟨g, k * 7, none⟩) (l.length - k) (rqs (l.drop k)) := by
  by_cases h0 : k = l.length
  · subst h0
    rw [Nat.sub_self, List.drop_length]
    exact src_zero _
  · rw [if_neg (by omega)]
    have := src_rqs h k (l.length - k) (by omega)
    rwa [List.take_of_length_le (by rw [List.length_drop]; omega)] at this
theorem rqs_one {l : List En} (h : ∀ e ∈ l, ∃ A n c, e.gv = .slice A n c) : ∀ u ∈ rqs l, u.oneCell' = true := by
  intro u hu
  obtain ⟨e, he, hu⟩ := List.mem_flatMap.1 hu
  obtain ⟨A, n, c, hv⟩ := h e he
  simp only [rqCells, hv] at hu
  simp at hu
  rcases hu with rfl | rfl | rfl | rfl | rfl | rfl | rfl <;> rfl
theorem LnxOf.one {w : World} {X : Nat} {v n : Value} {l : List En} {nt : List Int} (h : LnxOf w X v n l nt) : ∀ e ∈ l, ∃ A n c, e.gv = .slice A n c := fun e he => by
  obtain ⟨A, c, hv, _⟩ := (h.got e he).1
  exact ⟨A, _, c, hv⟩
/-- The row is another one, that lies in blocks of its own. -/
theorem LnxOf.row {w w6 : World} {X : Nat} {v v6 n : Value} {l l2 : List En} {nt : List Int} (h : LnxOf w X v n l nt) (hp : Pure w w6) (hown : w6.ownsRow w.heap.size 28 7 v6 l2.length (rqs l2)) (hsub : ∀ e ∈ l2, e ∈ l) (hlen : l2.length ≤ l.length) :
    LnxOf (w6.setCell ⟨X, 0, none⟩ v6) X v6 n l2 nt ∧ Only (LnxS X v n) w (w6.setCell ⟨X, 0, none⟩ v6) := by
  have h6 := h.pure hp
  have ho : Only (fun q => q = X) w6 (w6.setCell ⟨X, 0, none⟩ v6) := only_set (Only.refl _ w6) 0 v6
  have hoS : Only (LnxS X v n) w6 (w6.setCell ⟨X, 0, none⟩ v6) := ho.mono (fun q _ e => .inl e)
  refine ⟨⟨by simp [World.setCell, Array.getElem?_modify, h6.at_], own_mono (ho.own hown (fun k hk => row_ne h6.at_ hown (by decide) hk)) (Nat.zero_le _), ho.own h6.nown (fun k hk => row_ne h6.at_ h6.nown (by decide) hk), h.nrng, fun e he => ?_, by have := h.few; omega, fun e he => h.short e (hsub e he)⟩, (hp.mono (fun _ _ f => f.elim)).trans hoS (fun _ _ h => h)⟩
  have he' := hsub e he
  refine ⟨(h6.got e he').1.only hoS (fun q hq => ((h6.got e he').2 q hq).1), fun q hq => ⟨?_, Nat.lt_of_lt_of_le ((h6.got e he').2 q hq).2 hoS.size⟩⟩
  have hlt := ((h.got e he').2 q hq).2
  rintro (e' | e' | e')
  · exact ((h.got e he').2 q hq).1 (.inl e')
  · have := (hown.lt q e').1
    omega
  · exact ((h.got e he').2 q hq).1 (.inr (.inr e'))

theorem dropx_no (X : Nat) (v n : Value) (l : List En) (nt : List Int) (t : Int) (w : World) (hl : LnxOf w X v n l nt) (hix : ixI (isT t) l = -1) :
    Calls Try.prog 25 #[.pointer (some ⟨X, 0, none⟩), .int .i64 t] w fun e' w' => e' = .returned (.bool false) ∧ Pure w w' := by
  have HL := Lib.hid hl
  have HIX := Lib.hid hix
  clear hl hix
  go_enter Try.func25, Try.ntmps25
  go_wp2_with fail
  refine (find_any X v n l nt t _ HL.out).mono ?_
  rw [HIX.out]
  rintro e1 w2 ⟨rfl, rfl⟩
  go_wp2_with fail
  go_ret
  exact ⟨rfl, Only.refl _ _⟩

theorem filt_succ (nt : List Int) (t x : Int) (k : Nat) (h : nt[k]? = some x) : (nt.take (k + 1)).filter (· != t) = (nt.take k).filter (· != t) ++ if x != t then [x] else [] := by
  rw [List.take_add_one, h, List.filter_append]
  simp [List.filter_cons]

set_option maxRecDepth 100000 in
set_option maxHeartbeats 4000000 in
theorem dropx_yes (X : Nat) (v n : Value) (l : List En) (nt : List Int) (t : Int) (k : Nat) (w : World) (hl : LnxOf w X v n l nt) (hix : ixI (isT t) l = k) (hk : k < l.length) (hnt : nt.length ≤ 1000) :
    Calls Try.prog 25 #[.pointer (some ⟨X, 0, none⟩), .int .i64 t] w fun e' w' => ∃ v' n', e' = .returned (.bool true) ∧ LnxOf w' X v' n' (l.eraseIdx k) (nt.filter (· != t)) ∧ Only (LnxS X v n) w w' ∧ ∀ q, LnxS X v' n' q → LnxS X v n q ∨ w.heap.size ≤ q := by
  obtain ⟨i0, hi0, hz0, hz1, hz2⟩ := info_parts req_info
  obtain ⟨i1, hj0, hy0, hy1, hy2⟩ := info_parts int_info
  obtain ⟨g, c, rfl, _, _⟩ := hl.own.form (n := l.length) (by omega)
  obtain ⟨hcap, hmax⟩ := own_cap hl.own
  obtain ⟨AN, cN, rfl⟩ := own_form hl.nown
  have HL := Lib.hid hl
  have HIX := Lib.hid hix
  have hfew := hl.few
  have hk1 : ((k : Int) < 0) = False := by simp
  clear hl hix
  go_enter Try.func25, Try.ntmps25
  go_wp2_with fail
  refine (find_any X _ _ l nt t _ HL.out).mono ?_
  rw [HIX.out]
  rintro e1 w2 ⟨rfl, rfl⟩
  go_upto_region 4 with fail
  go_cut [4] (fun _ wx => ∃ v', LnxOf wx X v' (.slice AN nt.length cN) (l.eraseIdx k) nt ∧ Only (LnxS X (.slice (some ⟨g, 0, none⟩) l.length c) (.slice AN nt.length cN)) w wx ∧ ∀ q, v'.ownBlock = some q → w.heap.size ≤ q)
  case first =>
    have O5 := Lib.hid (show (w.drew.alloc (.cells #[] 28)).ownsRow 0 28 7 (.slice (some ⟨g, 0, none⟩) l.length c) l.length (rqs l) from World.ownsRow.alloc (w := w.drew) HL.out.own _)
    have hW : Only (fun _ => False) w (w.drew.alloc (.cells #[] 28)) := (drew_pure w).alloc _
    have HW := Lib.hid hW
    have hlm := HL.out.own.lt g rfl
    have HONE := Lib.hid (show ∀ l2 : List En, (∀ e ∈ l2, e ∈ l) → ∀ u ∈ rqs l2, u.oneCell' = true from fun l2 h => rqs_one (fun e he => HL.out.one e (h e he)))
    have xca : w.drew.cell? ⟨X, 0, none⟩ = some (.slice (some ⟨g, 0, none⟩) l.length c) := HL.out.c0
    have xcb : w.cell? ⟨X, 0, none⟩ = some (.slice (some ⟨g, 0, none⟩) l.length c) := HL.out.c0
    have xcc : (w.alloc (.cells #[] 28)).cell? ⟨X, 0, none⟩ = some (.slice (some ⟨g, 0, none⟩) l.length c) := Pure.keep ((Only.refl (fun _ => False) w).alloc _) HL.out.c0
    have xcd : (w.alloc (.cells #[] 28)).drew.cell? ⟨X, 0, none⟩ = some (.slice (some ⟨g, 0, none⟩) l.length c) := xcc
    have xce : (w.drew.alloc (.cells #[] 28)).cell? ⟨X, 0, none⟩ = some (.slice (some ⟨g, 0, none⟩) l.length c) := xcc
    have hic : k ≤ c := by omega
    have hjc : k + 1 ≤ c := by omega
    have b0 : (0 : Int) ≤ (k : Int) + 1 := by omega
    have b1 : (k : Int) + 1 ≤ (l.length : Int) := by omega
    clear hW
    obtain ⟨A9, hA9⟩ : ∃ A9, (if c = k + 1 then some (⟨g, 0, none⟩ : Addr) else some ⟨g, (k + 1) * 7, none⟩) = A9 := ⟨_, rfl⟩
    have HA9 := Lib.hid (show ∀ w' : World, w'.ownsRow 0 28 7 (.slice (some ⟨g, 0, none⟩) l.length c) l.length (rqs l) → Src w' 7 A9 (l.length - (k + 1)) (rqs (l.drop (k + 1))) from fun w' h => hA9 ▸ src_rqs_behind h (k + 1) (by omega) hcap)
    have hwr : IntKind.i64.wrap ((k : Int) + 1) = (k : Int) + 1 := IntWalk.i64_in _ (by omega)
    have htn : ((k : Int) + 1).toNat = k + 1 := by omega
    go_region_law ((first | (refine step_app rfl (.tmp 14) (.tmp 20) _ rfl w.heap.size 28 i0 _ 7 72 Try.underlying44 hi0 hz0 hz1 hz2 rfl (by omega) _ 0 [] rfl (World.ownsRow_made w.drew #[] 0 (Nat.le_refl _) (by simp [maxLen]) rfl) _ k c (rqs (l.take k)) rfl (src_rqs_front O5.out k (by omega)) (HONE.out _ (fun e he => List.mem_of_mem_take he)) (by simp only [maxLen]; omega) (by omega) (by simp) ?_; intro v6 w6 hown6 hg6 hat6; simp only [Nat.zero_add, List.nil_append] at hown6; obtain ⟨A6, c6, rfl⟩ := own_form hown6; have OWN6 := Lib.hid hown6; have HW6 := Lib.hid (HW.out.grown hg6 (fun q hq e => absurd (Option.some.inj e).symm (Nat.ne_of_lt hq))); have O6 := Lib.hid (World.ownsRow.kept O5.out hg6 (.inr (fun e => absurd (Option.some.inj e) (Nat.ne_of_lt hlm.2)))); have x6 := Pure.keep HW6.out xcb; clear hown6 hg6 hat6) | (refine step_app rfl (.tmp 21) (.tmp 28) _ rfl w.heap.size 28 i0 _ 7 72 Try.underlying44 hi0 hz0 hz1 hz2 rfl (by omega) (.slice A6 k c6) k (rqs (l.take k)) rfl OWN6.out _ (l.length - (k + 1)) (c - (k + 1)) (rqs (l.drop (k + 1))) rfl (HA9.out _ O6.out) (HONE.out _ (fun e he => List.mem_of_mem_drop he)) (by simp only [maxLen]; omega) (by omega) HW6.out.size ?_; intro v7 w7 hown7 hg7 hat7; obtain ⟨A7, c7, rfl⟩ := own_form hown7; have OWN7 := Lib.hid hown7; have HW7 := Lib.hid (HW6.out.grown hg7 (fun q hq e => by have := (OWN6.out.lt q e).1; omega)); have L7 := Lib.hid (HL.out.pure HW7.out); have x7 := L7.out.c0; have xf7 := L7.out.f0 0; clear hown7 hg7 hat7)))
    all_goals
      go_wp2_with fail
      go_meet
      clear hwr htn hA9
      have elen : (l.eraseIdx k).length = k + (l.length - (k + 1)) := by rw [List.length_eraseIdx_of_lt hk]; omega
      have D := HL.out.row (l2 := l.eraseIdx k) HW7.out (v6 := .slice A7 (k + (l.length - (k + 1))) c7) (by rw [elen, List.eraseIdx_eq_take_drop_succ, rqs_append]; exact OWN7.out) (fun e he => List.mem_of_mem_eraseIdx he) (by rw [elen]; omega)
      exact ⟨_, D.1, D.2, fun q hq => (OWN7.out.lt q hq).1⟩
  case rest =>
    obtain ⟨v5, hl5, ho5, hv5⟩ := hcut
    have L5 := Lib.hid hl5
    have O5 := Lib.hid ho5
    have V5 := Lib.hid hv5
    have hz5 := ho5.size
    clear hl5 ho5 hv5
    go_wp2_with fail
    go_loopw [6, 7] (fun s6 i wr => ∃ m : Nat, m ≤ nt.length ∧ i = .int .i64 m ∧ wr.ownsRow wc.heap.size 3 1 s6 ((nt.take m).filter (· != t)).length (ints ((nt.take m).filter (· != t))) ∧ Pure wc wr) (fun _ i _ => nt.length - (intOf i).toNat)
    case atStart => exact ⟨0, Nat.zero_le _, by first | rfl | simp, by simpa [ints] using World.ownsRow_nil _ _ _ _, Only.refl _ _⟩
    case round =>
      obtain ⟨m, hm, rfl, hown, hp⟩ := hrel
      obtain ⟨AM, cM, rfl⟩ := own_form hown
      have OWN := Lib.hid hown
      have HP := Lib.hid hp
      have LR := Lib.hid (L5.out.pure hp)
      have x1 := LR.out.c1
      have HFL := Lib.hid (show ((nt.take m).filter (· != t)).length ≤ 1000 from by have := List.length_filter_le (· != t) (nt.take m); rw [List.length_take] at this; omega)
      clear hown hp
      by_cases hlt : m < nt.length
      · obtain ⟨x, hx⟩ : ∃ x, nt[m]? = some x := ⟨_, List.getElem?_eq_getElem hlt⟩
        obtain ⟨gN, cN', hv, _, _⟩ := LR.out.nown.form (n := nt.length) (by omega)
        injection hv with hv1 hv2 hv3
        subst hv1
        have cx : wr.cell? ⟨gN, m, none⟩ = some (.int .i64 x) := by
          have h := LR.out.nown
          rw [h.cellAt m (by omega), ints, List.getElem?_map, hx]
          rfl
        have HF := Lib.hid (filt_succ nt t x m hx)
        have hlt' : (m : Int) < ((nt.length : Nat) : Int) := by omega
        have hm0 : (0 : Int) ≤ (m : Int) := by omega
        clear hv2 hv3
        by_cases hxt : x = t
        · have hxt' : (x != t) = false := by simp [hxt]
          have HE := Lib.hid hxt'
          clear hxt hx
          go_wp2_with fail
          go_roundw
          case rel => exact ⟨m + 1, hlt, by go_num, by rw [HF.out, HE.out]; simpa using OWN.out, HP.out⟩
          case measure => simp [intOf]; omega
        · have hxt' : (x != t) = true := by simp [hxt]
          have HE := Lib.hid hxt'
          have hsz : wc.heap.size ≤ (wr.alloc (.cells #[.int .i64 x] 3)).heap.size := Nat.le_trans HP.out.size (by simp)
          clear hxt hx
          generalize hnm : (nt.take m).filter (· != t) = fl at *
          have HNM := Lib.hid hnm
          have hfl := HFL.out
          clear hnm
          go_wp2_with (at_builtin; refine wpList_app _ rfl (.tmp 50) (.tmp 58) _ rfl wc.heap.size 3 i1 _ 1 8 Try.underlying22 hj0 hy0 hy1 hy2 rfl (by omega) (.slice AM fl.length cM) fl.length (ints fl) rfl (World.ownsRow.alloc (w := wr) OWN.out _) _ 1 1 (ints [x]) rfl (Src.one wr _ _ _ rfl) (ints_one _) (by simp only [maxLen]; omega) (by omega) hsz ?_; intro v9 w9 hown9 hg9 hat9; obtain ⟨A9, c9, rfl⟩ := own_form hown9; have OWN9 := Lib.hid hown9; have G9 := Lib.hid hg9; clear hown9 hg9 hat9)
          go_roundw
          case rel => exact ⟨m + 1, hlt, by go_num, by rw [HF.out, HE.out]; simpa [ints_append] using OWN9.out, Only.grown (HP.out.alloc _) G9.out (fun q hq e => by have := (OWN.out.lt q e).1; omega)⟩
          case measure => simp [intOf]; omega
      · obtain rfl : m = nt.length := by omega
        have f1 := LR.out.f0 1
        go_wp2_with fail
        go_ret
        have h := OWN.out
        rw [List.take_length] at h
        have D := LR.out.noted (nt2 := nt.filter (· != t)) (own_mono h (Nat.zero_le _)) (fun x hx => L5.out.nrng x (List.mem_filter.1 hx).1) (fun e he q hq e' => by
          have h1 := (h.lt q e').1
          have h2 := ((L5.out.got e he).2 q hq).2
          omega)
        have hS : Only (LnxS X (.slice (some ⟨g, 0, none⟩) l.length c) (.slice AN nt.length cN)) wc (wr.setCell ⟨X, 1, none⟩ (.slice AM ((nt.take nt.length).filter (· != t)).length cM)) :=
          (HP.out.mono (fun _ _ f => f.elim)).setCell (p := ⟨X, 1, none⟩) (fun _ => .inl rfl) _
        rw [List.take_length] at hS
        refine ⟨rfl, v5, _, D.1, O5.out.trans hS (fun _ _ h => h), fun q hq => ?_⟩
        rcases hq with hq | hq | hq
        · exact .inl (.inl hq)
        · exact .inr (V5.out q hq)
        · exact .inr (by have := (h.lt q hq).1; omega)


/-- One noted thread more. -/
theorem LnxOf.noted1 {w w6 : World} {X : Nat} {v n n6 : Value} {l : List En} {nt : List Int} {t : Int} {q6 : Nat} (h : LnxOf w X v n l nt) (ho : Only (fun k => n.ownBlock = some k) w w6) (hown : w6.ownsRow 0 3 1 n6 (nt.length + 1) (ints nt ++ ints [t]))
    (hat : n6.ownBlock = n.ownBlock ∨ n6.ownBlock = some q6) (hq6 : w.heap.size ≤ q6) (hr : InR (nt ++ [t])) : LnxOf (w6.setCell ⟨X, 1, none⟩ n6) X v n6 l (nt ++ [t]) ∧ Only (LnxS X v n) w (w6.setCell ⟨X, 1, none⟩ n6) := by
  have hX := (Array.getElem?_eq_some_iff.1 h.at_).1
  have at6 : w6.heap[X]? = some (.cells #[v, n] 46 (0, 0)) := (ho.block X hX (fun e' => row_ne h.at_ h.nown (by decide) e' rfl)).trans h.at_
  have v6 : w6.ownsRow 0 28 7 v l.length (rqs l) := ho.own h.own (fun k hk e => rows_ne h.own h.nown (by decide) hk e)
  have hoS : Only (LnxS X v n) w (w6.setCell ⟨X, 1, none⟩ n6) := (ho.mono (fun _ _ hk => .inr (.inr hk))).setCell (p := ⟨X, 1, none⟩) (fun _ => .inl rfl) n6
  have ho2 : Only (fun q => q = X) w6 (w6.setCell ⟨X, 1, none⟩ n6) := only_set (Only.refl _ w6) 1 n6
  refine ⟨⟨by simp [World.setCell, Array.getElem?_modify, at6], ho2.own v6 (fun k hk => row_ne at6 v6 (by decide) hk), ?_, hr, fun e he => ?_, h.few, h.short⟩, hoS⟩
  · rw [ints_append, show (nt ++ [t]).length = nt.length + 1 from by simp]
    exact ho2.own hown (fun k hk => row_ne at6 hown (by decide) hk)
  · refine ⟨(h.got e he).1.only hoS (fun q hq => ((h.got e he).2 q hq).1), fun q hq => ⟨?_, Nat.lt_of_lt_of_le ((h.got e he).2 q hq).2 hoS.size⟩⟩
    rintro (e' | e' | e')
    · exact ((h.got e he).2 q hq).1 (.inl e')
    · exact ((h.got e he).2 q hq).1 (.inr (.inl e'))
    · rcases hat with hat | hat
      · exact ((h.got e he).2 q hq).1 (.inr (.inr (hat ▸ e')))
      · rw [hat] at e'
        have := ((h.got e he).2 q hq).2
        injection e' with e'
        omega

/-- The threads of those that wait, among the first k. -/
def wk (l : List En) (k : Nat) : List Int := ((l.take k).filter isW).map En.thread
theorem wk_succ {l : List En} {k : Nat} {e : En} (h : l[k]? = some e) : wk l (k + 1) = wk l k ++ if isW e = true then [e.thread] else [] := by
  rw [wk, List.take_add_one, h, List.filter_append, List.map_append, wk]
  cases hw : isW e <;> simp [hw]
theorem wk_len (l : List En) (k : Nat) : (wk l k).length ≤ l.length := by
  rw [wk, List.length_map]
  refine Nat.le_trans (List.length_filter_le _ _) ?_
  rw [List.length_take]
  omega

set_option maxRecDepth 100000 in
set_option maxHeartbeats 4000000 in
theorem beginx_any (X : Nat) (v n : Value) (l : List En) (nt : List Int) (w : World) (hl : LnxOf w X v n l nt) (hth : ∀ e ∈ l, -9223372036854775808 ≤ e.thread ∧ e.thread ≤ 9223372036854775807) :
    Calls Try.prog 26 #[.pointer (some ⟨X, 0, none⟩)] w fun e' w' => e' = .returned (.tuple #[]) ∧ ∃ n', LnxOf w' X v n' l ((l.filter isW).map En.thread) ∧ Only (LnxS X v n) w w' ∧ ∀ q, n'.ownBlock = some q → w.heap.size ≤ q := by
  obtain ⟨i1, hj0, hy0, hy1, hy2⟩ := info_parts int_info
  obtain ⟨A, c, rfl⟩ := hl.form
  have HL := Lib.hid hl
  have HT := Lib.hid hth
  have hfew := hl.few
  have c1 := hl.c1
  have f1 := hl.f0 1
  clear hl hth
  go_enter Try.func26, Try.ntmps26
  go_wp2_with fail
  have D0 := Lib.hid (HL.out.noted (n2 := .slice none 0 0) (nt2 := []) (World.ownsRow_nil _ _ _ _) (fun x hx => by simp at hx) (fun e he q hq => by simp [Value.ownBlock]))
  clear c1 f1
  go_loopw [2] (fun i wr => ∃ (k : Nat) (nk : Value), k ≤ l.length ∧ i = .int .i64 k ∧ LnxOf wr X (.slice A l.length c) nk l (wk l k) ∧ Only (LnxS X (.slice A l.length c) n) w wr ∧ ∀ q, nk.ownBlock = some q → w.heap.size ≤ q) (fun i _ => l.length - (intOf i).toNat)
  case atStart => exact ⟨0, _, Nat.zero_le _, by first | rfl | simp, D0.out.1, D0.out.2, fun q hq => by simp [Value.ownBlock] at hq⟩
  case round =>
    obtain ⟨k, nk, hk, rfl, hl, ho, hq⟩ := hrel
    obtain ⟨AM, cM, rfl⟩ := own_form hl.nown
    have LR := Lib.hid hl
    have HO := Lib.hid ho
    have HQ := Lib.hid hq
    have c0 := hl.c0
    clear hl ho hq
    by_cases hlt : k < l.length
    · obtain ⟨e, he⟩ : ∃ e, l[k]? = some e := ⟨l[k], List.getElem?_eq_getElem hlt⟩
      obtain ⟨g', cc, hv, d0, _, _, d3, _, _, _, _⟩ := LR.out.cells he
      injection hv with hv1 hv2 hv3
      subst hv1
      have HW := Lib.hid (wk_succ he)
      have hwl := wk_len l k
      have HTE := Lib.hid (HT.out e (List.mem_of_getElem? he))
      have hk1 : (k : Int) < ((l.length : Nat) : Int) := by omega
      have hk0 : (0 : Int) ≤ (k : Int) := by omega
      clear hv2 hv3 he
      cases hw : isW e with
      | false =>
        have hst : (e.state == 0) = false := hw
        have HN := Lib.hid (show wk l (k + 1) = wk l k from by rw [HW.out, hw]; simp)
        clear hw
        go_wp2_with fail
        go_roundw
        case rel => exact ⟨k + 1, _, hlt, by go_num, by rw [HN.out]; exact LR.out, HO.out, HQ.out⟩
        case measure => simp [intOf]; omega
      | true =>
        have hst : (e.state == 0) = true := hw
        have HN := Lib.hid (show wk l (k + 1) = wk l k ++ [e.thread] from by rw [HW.out, hw]; simp)
        have c1 := LR.out.c1
        have HAT := Lib.hid LR.out.at_
        clear hw
        have xca : wr.drew.cell? ⟨X, 0, none⟩ = some (.slice (some ⟨g', 0, none⟩) l.length c) := c0
        have xcb : wr.cell? ⟨X, 0, none⟩ = some (.slice (some ⟨g', 0, none⟩) l.length c) := c0
        have xcc : (wr.alloc (.cells #[.int .i64 e.thread] 3)).cell? ⟨X, 0, none⟩ = some (.slice (some ⟨g', 0, none⟩) l.length c) := Pure.keep ((Only.refl (fun _ => False) wr).alloc _) (c0)
        have xcd : (wr.alloc (.cells #[.int .i64 e.thread] 3)).drew.cell? ⟨X, 0, none⟩ = some (.slice (some ⟨g', 0, none⟩) l.length c) := xcc
        have xce : (wr.drew.alloc (.cells #[.int .i64 e.thread] 3)).cell? ⟨X, 0, none⟩ = some (.slice (some ⟨g', 0, none⟩) l.length c) := xcc
        have xna : wr.drew.cell? ⟨X, 1, none⟩ = some (.slice AM (wk l k).length cM) := c1
        have xnb : wr.cell? ⟨X, 1, none⟩ = some (.slice AM (wk l k).length cM) := c1
        have xnc : (wr.alloc (.cells #[.int .i64 e.thread] 3)).cell? ⟨X, 1, none⟩ = some (.slice AM (wk l k).length cM) := Pure.keep ((Only.refl (fun _ => False) wr).alloc _) (c1)
        have xnd : (wr.alloc (.cells #[.int .i64 e.thread] 3)).drew.cell? ⟨X, 1, none⟩ = some (.slice AM (wk l k).length cM) := xnc
        have xne : (wr.drew.alloc (.cells #[.int .i64 e.thread] 3)).cell? ⟨X, 1, none⟩ = some (.slice AM (wk l k).length cM) := xnc
        have xta : wr.drew.cell? ⟨g', k * 7, none⟩ = some (.int .i64 e.thread) := d0
        have xtb : wr.cell? ⟨g', k * 7, none⟩ = some (.int .i64 e.thread) := d0
        have xtc : (wr.alloc (.cells #[.int .i64 e.thread] 3)).cell? ⟨g', k * 7, none⟩ = some (.int .i64 e.thread) := Pure.keep ((Only.refl (fun _ => False) wr).alloc _) (d0)
        have xtd : (wr.alloc (.cells #[.int .i64 e.thread] 3)).drew.cell? ⟨g', k * 7, none⟩ = some (.int .i64 e.thread) := xtc
        have xte : (wr.drew.alloc (.cells #[.int .i64 e.thread] 3)).cell? ⟨g', k * 7, none⟩ = some (.int .i64 e.thread) := xtc
        have HNO := Lib.hid LR.out.nown
        go_upto_region 5 with fail
        clear c0 c1 d0 d3
        go_region_law ((first | (refine step_app rfl (.tmp 28) (.tmp 37) _ rfl 0 3 i1 _ 1 8 Try.underlying22 hj0 hy0 hy1 hy2 rfl (by omega) (.slice AM (wk l k).length cM) (wk l k).length (ints (wk l k)) rfl (World.ownsRow.alloc (w := wr.drew) HNO.out _) _ 1 1 (ints [e.thread]) rfl (Src.one wr.drew _ _ _ rfl) (ints_one _) (by simp only [maxLen]; omega) (by omega) (by simp) ?_; intro v6 w6 hown6 hg6 hat6; obtain ⟨A6, c6, rfl⟩ := own_form hown6; have HO6 := Lib.hid (Only.grown (S := fun k' => (Value.slice AM (wk l k).length cM).ownBlock = some k') ((drew_pure wr).mono (fun _ _ f => f.elim) |>.alloc _) hg6 (fun k _ e => e)); have at6 := (HO6.out.block X (Array.getElem?_eq_some_iff.1 HAT.out).1 (fun e' => row_ne HAT.out HNO.out (by decide) e' rfl)).trans HAT.out; have s6 := cell_of_row w6 X 1 _ _ _ at6; have s6f := frozen_of_row w6 X 1 _ _ at6; have D6 := Lib.hid (LR.out.noted1 (t := e.thread) HO6.out hown6 hat6 (by simp) (fun x hx => by
            rcases List.mem_append.1 hx with hx | hx
            · exact LR.out.nrng x hx
            · simp at hx; subst hx; exact HTE.out)); have HAT6 := Lib.hid hat6; clear hat6 hown6 hg6 at6)))
        all_goals
          go_wp2_with fail
          go_roundw
          case rel =>
            refine ⟨k + 1, _, hlt, by go_num, by rw [HN.out]; exact D6.out.1, HO.out.trans D6.out.2 (fun i hi h => ?_), fun q hq => ?_⟩
            · rcases h with h | h | h
              · exact .inl h
              · exact .inr (.inl h)
              · exact absurd (HQ.out i h) (by omega)
            · rcases HAT6.out with h | h
              · exact HQ.out q (h ▸ hq)
              · rw [h] at hq
                injection hq with hq
                have := HO.out.size
                simp at hq
                omega
          case measure => simp [intOf]; omega
    · obtain rfl : k = l.length := by omega
      go_wp2_with fail
      go_end0
      refine ⟨rfl, .slice AM (wk l l.length).length cM, ?_, HO.out, HQ.out⟩
      have h := LR.out
      generalize (wk l l.length).length = m at h ⊢
      rwa [wk, List.take_length] at h


end Go.Proofs.Ytmpomkejmokdlaa
