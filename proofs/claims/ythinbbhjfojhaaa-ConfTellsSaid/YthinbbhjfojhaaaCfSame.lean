/-
  The contracts of the reference's SameConf and Shape.
-/
import Derived.Test.YthinbbhjfojhaaaCfRef
import Derived.StillTailTactics
namespace Go.Proofs.Ythinbbhjfojhaaa
open Go.RowKit
open Go.Proofs.Ythinbbhjfojhaaa.confSmall (Row Row.new Row.keep Row.cells Row.keepSet first_any)

theorem refshape_in (c : Cn) (v : Value) (l : List Sh) (k : Nat) (s : Sh) (w : World) (hl : ShsR w w.heap.size v l) (hk : l[k]? = some s) :
    Calls Try.prog 13 #[cnV c v, .int .i64 k] w fun e w' => e = .returned (.tuple #[.agg #[.bool s.a, s.v], .bool true]) ∧ Pure w w' := by
  obtain ⟨⟨A, cc, rfl, h1, h2, h3⟩, h4⟩ := hl
  have hlt := (List.getElem?_eq_some_iff.1 hk).1
  obtain ⟨b, off, hA, hb, hc⟩ := h3 (by omega)
  subst hA
  obtain ⟨d1, d2⟩ := hc k s hk
  obtain ⟨B, d, hv, hd1, hd2, _⟩ := h4 s (List.mem_of_getElem? hk)
  rw [hv] at d2
  have hp : Pure w ((w.alloc (.cells #[.int .i64 c.frags, .int .i64 c.spine, .int .i64 c.globals, .int .i64 c.threads, .int .i64 c.locals, .int .i64 c.cache, .int .i64 c.stack, .int .i64 c.low, .slice (some ⟨b, off, none⟩) l.length cc] 24)).alloc (.cells #[.bool s.a, s.v] 32)) := ((Only.refl _ _).alloc _).alloc _
  rw [hv] at hp ⊢
  have HP := Lib.hid hp
  clear h3 h4 hc hk hv hp
  go_enter Try.func13, Try.ntmps13
  go_wp2_with (fail)
  exact bodyPost_ret (v := .tuple #[.agg #[.bool s.a, .slice B (bools s.bs).length d], .bool true]) (by simp [results, Try.results13, go_sem]) rfl ⟨rfl, HP.out⟩

theorem refshape_out (c : Cn) (A : Option Addr) (n cc : Nat) (k : Int) (w : World) (hk : k < 0 ∨ (n : Int) ≤ k) :
    Calls Try.prog 13 #[cnV c (.slice A n cc), .int .i64 k] w fun e w' => e = .returned (.tuple #[.agg #[.bool false, .slice none 0 0], .bool false]) ∧ Pure w w' := by
  have HP := Lib.hid (((Only.refl (fun _ => False) w).alloc (.cells #[.int .i64 c.frags, .int .i64 c.spine, .int .i64 c.globals, .int .i64 c.threads, .int .i64 c.locals, .int .i64 c.cache, .int .i64 c.stack, .int .i64 c.low, .slice A n cc] 24)).alloc (.cells #[.bool false, .slice none 0 0] 32))
  by_cases h0 : k < 0
  · clear hk
    go_enter Try.func13, Try.ntmps13
    go_wp2_with (fail)
    exact bodyPost_ret (v := .tuple #[.agg #[.bool false, .slice none 0 0], .bool false]) (by simp [results, Try.results13, go_sem]) rfl ⟨rfl, HP.out⟩
  · have h1 : (n : Int) ≤ k := by omega
    clear hk
    go_enter Try.func13, Try.ntmps13
    go_wp2_with (fail)
    exact bodyPost_ret (v := .tuple #[.agg #[.bool false, .slice none 0 0], .bool false]) (by simp [results, Try.results13, go_sem]) rfl ⟨rfl, HP.out⟩

/-- What both tell of a number. -/
theorem shape_both (c : Cn) (v : Value) (l : List Sh) (w : World) (kind : Int) (hl : ShsR w w.heap.size v l) (hx : ∀ s ∈ l, s.bs.length ≤ 1000000) :
    ∃ (a : Bool) (n : Nat) (ok : Bool), n ≤ 1000000 ∧ (∀ w', Pure w w' → Calls Try.prog 12 #[cnV c v, .int .i64 kind] w' fun e w2 => ∃ A d, e = .returned (.tuple #[.agg #[.bool a, .slice A n d], .bool ok]) ∧ Pure w' w2) ∧
      (∀ w', Pure w w' → Calls Try.prog 13 #[cnV c v, .int .i64 kind] w' fun e w2 => ∃ A d, e = .returned (.tuple #[.agg #[.bool a, .slice A n d], .bool ok]) ∧ Pure w' w2) := by
  by_cases hk : 0 ≤ kind ∧ kind < l.length
  · obtain ⟨h0, h1⟩ := hk
    obtain ⟨j, rfl⟩ := Int.eq_ofNat_of_zero_le h0
    have hlt : j < l.length := by omega
    have hs : l[j]? = some l[j] := List.getElem?_eq_getElem hlt
    obtain ⟨B, d, hv, _⟩ := hl.2 l[j] (List.getElem_mem hlt)
    rw [bools_length] at hv
    refine ⟨l[j].a, l[j].bs.length, true, hx _ (List.getElem_mem hlt), fun w' hp => ?_, fun w' hp => ?_⟩
    · exact shape_in c v l j l[j] w' (hl.pure hp) hs (hx _ (List.getElem_mem hlt))
    · refine (refshape_in c v l j l[j] w' (hl.pure hp) hs).mono ?_
      rintro e w2 ⟨he, hp2⟩
      rw [hv] at he
      exact ⟨B, d, he, hp2⟩
  · obtain ⟨⟨A, cc, rfl, _⟩, _⟩ := hl
    have hk' : kind < 0 ∨ (l.length : Int) ≤ kind := by omega
    refine ⟨false, 0, false, by omega, fun w' hp => (shape_out c A l.length cc kind w' hk').mono ?_, fun w' hp => (refshape_out c A l.length cc kind w' hk').mono ?_⟩
    · rintro e w2 ⟨he, hp2⟩; exact ⟨none, 0, he, hp2⟩
    · rintro e w2 ⟨he, hp2⟩; exact ⟨none, 0, he, hp2⟩

set_option maxRecDepth 100000 in
theorem sameconf_any (c : Cn) (va vb : Value) (la lb : List Sh) (w : World) (hla : ShsR w w.heap.size va la) (hlb : ShsR w w.heap.size vb lb) (hal : alike la lb) :
    Calls Try.prog 15 #[cnV c va, cnV c vb] w fun e w' => e = .returned (.bool true) ∧ Pure w w' := by
  have hlen := hal.length
  obtain ⟨⟨A, ca, rfl, h1, h2, h3⟩, h4⟩ := hla
  obtain ⟨⟨B, cb, rfl, k1, k2, k3⟩, k4⟩ := hlb
  have hr := (Row.new w c (.slice A la.length ca)).keep ((Only.refl _ _).alloc (.cells #[.int .i64 c.frags, .int .i64 c.spine, .int .i64 c.globals, .int .i64 c.threads, .int .i64 c.locals, .int .i64 c.cache, .int .i64 c.stack, .int .i64 c.low, .slice B lb.length cb] 24))
  have hq := Row.new (w.alloc (.cells #[.int .i64 c.frags, .int .i64 c.spine, .int .i64 c.globals, .int .i64 c.threads, .int .i64 c.locals, .int .i64 c.cache, .int .i64 c.stack, .int .i64 c.low, .slice A la.length ca] 24)) c (.slice B lb.length cb)
  rw [show (w.alloc (.cells #[.int .i64 c.frags, .int .i64 c.spine, .int .i64 c.globals, .int .i64 c.threads, .int .i64 c.locals, .int .i64 c.cache, .int .i64 c.stack, .int .i64 c.low, .slice A la.length ca] 24)).heap.size = w.heap.size + 1 from by simp] at hq
  have hq' : Row w (w.heap.size + 1) c (.slice B lb.length cb) ((w.alloc (.cells #[.int .i64 c.frags, .int .i64 c.spine, .int .i64 c.globals, .int .i64 c.threads, .int .i64 c.locals, .int .i64 c.cache, .int .i64 c.stack, .int .i64 c.low, .slice A la.length ca] 24)).alloc (.cells #[.int .i64 c.frags, .int .i64 c.spine, .int .i64 c.globals, .int .i64 c.threads, .int .i64 c.locals, .int .i64 c.cache, .int .i64 c.stack, .int .i64 c.low, .slice B lb.length cb] 24)) := ⟨by omega, hq.2.1, hr.2.2⟩
  have H3 := Lib.hid h3
  have H4 := Lib.hid h4
  have K3 := Lib.hid k3
  have K4 := Lib.hid k4
  have HAL := Lib.hid hal
  have HLEN := Lib.hid hlen
  have RA := Lib.hid hr
  have RB := Lib.hid hq'
  rw [← hlen] at RB
  clear h3 h4 k3 k4 hal hr hq hq'
  rw [← hlen]
  rw [← hlen] at k1
  clear hlen
  go_enter Try.func15, Try.ntmps15
  go_wp2_with fail
  rw [← HLEN.out] at RA
  generalize (w.alloc (.cells #[.int .i64 c.frags, .int .i64 c.spine, .int .i64 c.globals, .int .i64 c.threads, .int .i64 c.locals, .int .i64 c.cache, .int .i64 c.stack, .int .i64 c.low, .slice A la.length ca] 24)).alloc (.cells #[.int .i64 c.frags, .int .i64 c.spine, .int .i64 c.globals, .int .i64 c.threads, .int .i64 c.locals, .int .i64 c.cache, .int .i64 c.stack, .int .i64 c.low, .slice B la.length cb] 24) = W at *
  generalize hXe : w.heap.size = X at RA RB ⊢
  have HXE := Lib.hid hXe
  clear hXe
  go_loopw [5] (fun i wr => ∃ k : Nat, k ≤ la.length ∧ i = .int .i64 k ∧ Row w X c (.slice A la.length ca) wr ∧ Row w (X + 1) c (.slice B la.length cb) wr) (fun i _ => la.length - (intOf i).toNat)
  case atStart => exact ⟨0, Nat.zero_le _, rfl, RA.out, RB.out⟩
  case round =>
    obtain ⟨k, hk, rfl, hra, hrb⟩ := hrel
    have QA := Lib.hid hra
    have QB := Lib.hid hrb
    obtain ⟨c0, c1, c2, c3, c4, c5, c6, c7, c8, _⟩ := hra.cells
    obtain ⟨y0, y1, y2, y3, y4, y5, y6, y7, y8, _⟩ := hrb.cells
    clear hra hrb c0 c1 c2 c3 c4 c5 c6 c7 y0 y1 y2 y3 y4 y5 y6 y7
    by_cases hlt : k < la.length
    · have hlt' : k < lb.length := by have := HLEN.out; omega
      obtain ⟨b, off, hA, hb, hc⟩ := H3.out (by omega)
      obtain ⟨b', off', hB, hb', hc'⟩ := K3.out (by omega)
      subst hA
      subst hB
      obtain ⟨s, hs⟩ : ∃ s, la[k]? = some s := ⟨la[k], List.getElem?_eq_getElem hlt⟩
      obtain ⟨t, ht⟩ : ∃ t, lb[k]? = some t := ⟨lb[k], List.getElem?_eq_getElem hlt'⟩
      have hst : s.a = t.a ∧ s.bs = t.bs := by
        have h := congrArg (fun l : List (Bool × List Bool) => l[k]?) HAL.out
        simp only [List.getElem?_map, hs, ht, Option.map_some, Option.some.injEq, Prod.mk.injEq] at h
        exact h
      obtain ⟨d1, d2⟩ := hc k s hs
      obtain ⟨e1, e2⟩ := hc' k t ht
      obtain ⟨S, d, hv, hd1, hd2, hd3⟩ := H4.out s (List.mem_of_getElem? hs)
      obtain ⟨T, d', hv', hd1', hd2', hd3'⟩ := K4.out t (List.mem_of_getElem? ht)
      rw [← hst.2] at hv' hd1' hd3'
      rw [← hst.1] at e1
      rw [hv] at d2
      rw [hv'] at e2
      rw [bools_length] at d2 hd1 hd3 hd1' e2 hd3'
      have d1' := QA.out.2.2.keep d1
      have d2' := QA.out.2.2.keep d2
      have e1' := QA.out.2.2.keep e1
      have e2' := QA.out.2.2.keep e2
      have D3 := Lib.hid hd3
      have D3' := Lib.hid hd3'
      clear hc hc' d1 d2 e1 e2 hs ht hst hv hv' hd3 hd3'
      go_wp2_with fail
      have n1 := World.new_ne wr ⟨X, 8, none⟩ c8
      have n2 := World.new_ne wr ⟨X + 1, 8, none⟩ y8
      have n3 := World.new_ne wr ⟨b, off + k * 2, none⟩ d1'
      have n4 := World.new_ne wr ⟨b', off' + k * 2, none⟩ e1'
      go_region_held3 (fun w' => w'.cell? ⟨X, 8, none⟩ = some (.slice (some ⟨b, off, none⟩) la.length ca) ∧ w'.cell? ⟨X + 1, 8, none⟩ = some (.slice (some ⟨b', off', none⟩) la.length cb) ∧
          w'.cell? ⟨b, off + k * 2, none⟩ = some (.bool s.a) ∧ w'.cell? ⟨b, off + k * 2 + 1, none⟩ = some (.slice S s.bs.length d) ∧ w'.cell? ⟨b', off' + k * 2, none⟩ = some (.bool s.a) ∧ w'.cell? ⟨b', off' + k * 2 + 1, none⟩ = some (.slice T s.bs.length d'))
        (go_keep) (fail)
      · go_wp2_with fail
        have hpv : Pure wr ((wr.alloc (.cells #[.bool s.a, .slice S s.bs.length d] 32)).alloc (.cells #[.bool s.a, .slice T s.bs.length d'] 32)).drew := (((Only.refl _ wr).alloc _).alloc _).drewN 1
        have x6 : ((wr.alloc (.cells #[.bool s.a, .slice S s.bs.length d] 32)).alloc (.cells #[.bool s.a, .slice T s.bs.length d'] 32)).drew.cell? ⟨wr.heap.size, 1, none⟩ = some (.slice S s.bs.length d) := by simp
        have x7 : ((wr.alloc (.cells #[.bool s.a, .slice S s.bs.length d] 32)).alloc (.cells #[.bool s.a, .slice T s.bs.length d'] 32)).drew.cell? ⟨wr.heap.size + 1, 1, none⟩ = some (.slice T s.bs.length d') := by simp
        generalize ((wr.alloc (.cells #[.bool s.a, .slice S s.bs.length d] 32)).alloc (.cells #[.bool s.a, .slice T s.bs.length d'] 32)).drew = V at *
        have PV := Lib.hid hpv
        clear hpv c8 y8 d1' d2' e1' e2' n1 n2 n3 n4
        go_loopw [8] (fun i wr2 => ∃ j q : Nat, j ≤ s.bs.length ∧ i = .int .i64 j ∧ wr2 = V.drewN q) (fun i _ => s.bs.length - (intOf i).toNat)
        case atStart => exact ⟨0, 0, Nat.zero_le _, rfl, rfl⟩
        case round =>
          obtain ⟨j, q, hj, rfl, rfl⟩ := hrel
          by_cases hjl : j < s.bs.length
          · obtain ⟨sb, so, hS, _, hsc⟩ := D3.out (by omega)
            obtain ⟨tb, to, hT, _, htc⟩ := D3'.out (by omega)
            subst hS
            subst hT
            have hgj : (bools s.bs)[j]? = some (.bool (s.bs[j]'hjl)) := by simp [bools, hjl]
            have z1 := PV.out.keep (QA.out.2.2.keep (hsc j _ hgj))
            have z2 := PV.out.keep (QA.out.2.2.keep (htc j _ hgj))
            generalize (s.bs[j]'hjl) = x at z1 z2
            clear hsc htc hgj
            go_wp2_with fail
            go_quiet (fail)
            go_wp2_with fail
            go_roundw
            case rel => exact ⟨j + 1, _, by omega, by first | rfl | simp, rfl⟩
            case measure => simp [intOf]; omega
          · obtain rfl : j = s.bs.length := by omega
            go_wp2_with fail
            go_roundw
            case rel => exact ⟨k + 1, by omega, by first | rfl | simp, QA.out.keep (PV.out.drewN q), QB.out.keep (PV.out.drewN q)⟩
            case measure => simp [intOf]; omega
      · go_wp2_with fail
        have hpv : Pure wr ((wr.alloc (.cells #[.bool s.a, .slice T s.bs.length d'] 32)).alloc (.cells #[.bool s.a, .slice S s.bs.length d] 32)).drew := (((Only.refl _ wr).alloc _).alloc _).drewN 1
        have x6 : ((wr.alloc (.cells #[.bool s.a, .slice T s.bs.length d'] 32)).alloc (.cells #[.bool s.a, .slice S s.bs.length d] 32)).drew.cell? ⟨wr.heap.size + 1, 1, none⟩ = some (.slice S s.bs.length d) := by simp
        have x7 : ((wr.alloc (.cells #[.bool s.a, .slice T s.bs.length d'] 32)).alloc (.cells #[.bool s.a, .slice S s.bs.length d] 32)).drew.cell? ⟨wr.heap.size, 1, none⟩ = some (.slice T s.bs.length d') := by simp
        generalize ((wr.alloc (.cells #[.bool s.a, .slice T s.bs.length d'] 32)).alloc (.cells #[.bool s.a, .slice S s.bs.length d] 32)).drew = V at *
        have PV := Lib.hid hpv
        clear hpv c8 y8 d1' d2' e1' e2' n1 n2 n3 n4
        go_loopw [8] (fun i wr2 => ∃ j q : Nat, j ≤ s.bs.length ∧ i = .int .i64 j ∧ wr2 = V.drewN q) (fun i _ => s.bs.length - (intOf i).toNat)
        case atStart => exact ⟨0, 0, Nat.zero_le _, rfl, rfl⟩
        case round =>
          obtain ⟨j, q, hj, rfl, rfl⟩ := hrel
          by_cases hjl : j < s.bs.length
          · obtain ⟨sb, so, hS, _, hsc⟩ := D3.out (by omega)
            obtain ⟨tb, to, hT, _, htc⟩ := D3'.out (by omega)
            subst hS
            subst hT
            have hgj : (bools s.bs)[j]? = some (.bool (s.bs[j]'hjl)) := by simp [bools, hjl]
            have z1 := PV.out.keep (QA.out.2.2.keep (hsc j _ hgj))
            have z2 := PV.out.keep (QA.out.2.2.keep (htc j _ hgj))
            generalize (s.bs[j]'hjl) = x at z1 z2
            clear hsc htc hgj
            go_wp2_with fail
            go_quiet (fail)
            go_wp2_with fail
            go_roundw
            case rel => exact ⟨j + 1, _, by omega, by first | rfl | simp, rfl⟩
            case measure => simp [intOf]; omega
          · obtain rfl : j = s.bs.length := by omega
            go_wp2_with fail
            go_roundw
            case rel => exact ⟨k + 1, by omega, by first | rfl | simp, QA.out.keep (PV.out.drewN q), QB.out.keep (PV.out.drewN q)⟩
            case measure => simp [intOf]; omega
    · obtain rfl : k = la.length := by omega
      go_wp2
      go_ret
      exact ⟨rfl, QA.out.2.2⟩

end Go.Proofs.Ythinbbhjfojhaaa
