/-
  The law GraphCycles: objects that refer to one another in a ring are reached as long as one of them is, and not at all then, for every number.
-/
import Derived.Test.YtpllolefmijfdaaGrI
namespace Go.Proofs.Ytpllolefmijfdaa
open Go.RowKit Go.ChangeShapes Go.WideShapes Go.ChangeAt

abbrev g2 : List Vl := [noneVl, noneVl]
abbrev l0 : List Vl := [zeroVl, zeroVl, zeroVl, zeroVl]
theorem checkW (v1 v2 v3 : Value) : checkI cW (lW v1 v2 v3) = 0 := rfl
/-- The values of the flow of a graph of wide's: New. -/
theorem newW {w : World} {b : Nat} {v1 v2 v3 : Value} (h : ShsR w w.heap.size (.slice (some ⟨b, 0, none⟩) 3 3) (lW v1 v2 v3)) :
    Calls Try.prog 8 #[cnV cW (.slice (some ⟨b, 0, none⟩) 3 3)] w fun e w' => ∃ G, e = .returned (.tuple #[.pointer (some ⟨G, 0, none⟩), .int .i64 0]) ∧ Gx w (fun _ => False) G (stW [] none g2) w' :=
  (new_any cW _ (lW v1 v2 v3) w h (checkW v1 v2 v3) 2 rfl (by omega) (by simp [lW]) (by intro s hs; simp [lW] at hs; rcases hs with rfl | rfl | rfl <;> simp)).mono fun e w' ⟨G, κ, h1, h2, h3, h4⟩ => ⟨G, h1, Gx.new h2 h3 h4⟩
theorem joinW {w0 w : World} {F : Nat → Prop} {G : Nat} {th : List Th} {g : List Vl} (h : Gx w0 F G (stW th none g) w) :
    Calls Try.prog 9 #[.pointer (some ⟨G, 0, none⟩), .int .i64 0] w fun e w' => e = .returned (.bool true) ∧ Gx w0 F G (stW th (some l0) g) w' ∧ KeepF F w w' :=
  h.join rfl (by show (0 : Int) < 2; omega) 4 rfl (by omega)
/-- Operations that have just been laid. -/
theorem Gx.oneNew {w0 w : World} {F : Nat → Prop} {G : Nat} {st st' : GS} {ops : List Op20} {er : Int} (h : Gx w0 F G st w) (hr : ∃ v, Runs st zeroVl 0 ops v er st') (hlen : ops.length ≤ 1000) :
    Calls Try.prog 10 #[.pointer (some ⟨G, 0, none⟩), .slice (some ⟨w.heap.size, 0, none⟩) ops.length ops.length] (w.alloc (.cells (ocs ops).toArray 38)) fun e w' => ∃ r x y, e = .returned (.tuple #[.agg #[.bool r, .complex .f64 x y], .int .i64 er]) ∧ Gx w0 F G st' w' ∧ KeepF F w w' := by
  obtain ⟨v, hr⟩ := hr
  exact ((h.alloc (.cells (ocs ops).toArray 38)).run (heap_alloc_new w _) (.inr rfl) hr hlen).mono fun e w' ⟨a, b, c⟩ => ⟨v.r, v.x, v.y, a, b.mono fun _ hk => .inl hk, fun q o hq ho => c q o (.inl hq) (Pure.blk ((Only.refl (fun _ => False) w).alloc _) ho)⟩

namespace graphCycles
def L (k : Nat) : List Vl := [refVl 0, refVl (k - 1), if k = 1 then zeroVl else refVl (k - 1), zeroVl]
theorem runs0 : ∃ v, Runs (stW [] (some l0) g2) zeroVl 0 [⟨1, 0, 0, 0, 0, 0, 0⟩, ⟨14, 1, 0, 0, 0, 0, 0⟩] v 0 (stW (chn 0 1) (some (L 1)) g2) := by
  have h1 : Stp (stW [] (some l0) g2) ⟨1, 0, 0, 0, 0, 0, 0⟩ (refVl 0) 0 (stW (chn 0 1) (some [refVl 0, zeroVl, zeroVl, zeroVl]) g2) :=
    stp_new (st := stW [] (some l0) g2) (l := l0) rfl (by show (4 : Int) ≤ 4; omega) (by show 0 ≤ 100000; omega) 0 0 (by simp) b3 rfl (by simp) (by rw [show b3.length = 3 from rfl, size3]; omega) (by rw [show b3.length = 3 from rfl, size3]; show (1 : Int) ≤ 60; omega) (by show (0 : Int) ≤ 60; omega) 0 0 0
  have h2 : Stp (stW (chn 0 1) (some [refVl 0, zeroVl, zeroVl, zeroVl]) g2) ⟨14, 1, 0, 0, 0, 0, 0⟩ (refVl 0) 0 (stW (chn 0 1) (some (L 1)) g2) :=
    stp_copy (st := stW (chn 0 1) (some [refVl 0, zeroVl, zeroVl, zeroVl]) g2) (l := [refVl 0, zeroVl, zeroVl, zeroVl]) rfl (by show (4 : Int) ≤ 4; omega) 1 0 (by simp) (refVl 0) rfl 0 0 0 0
  exact ⟨_, .cons h1 (.cons h2 .nil)⟩
theorem runs1 (k : Nat) (hk : 0 < k) (hk1 : k ≤ 1000) : ∃ v, Runs (stW (chn 0 k) (some (L k)) g2) zeroVl 0 [⟨1, 2, 0, 0, 0, 0, 0⟩, ⟨4, 2, 1, 0, 0, 0, 0⟩, ⟨14, 1, 2, 0, 0, 0, 0⟩] v 0 (stW (chn 0 (k + 1)) (some (L (k + 1))) g2) := by
  have := runs_chain 0 k 2 1 1 (by omega) hk hk1 (L k) g2 rfl (by omega) (by omega) (by omega) (by omega) rfl
  have e : ((L k).set 2 (refVl k)).set 1 (refVl k) = L (k + 1) := by
    have h1 : ¬ k + 1 = 1 := by omega
    simp [L]
    omega
  rw [e] at this
  exact this
/-- The ring. -/
def ring (n : Nat) : List Th := (chn 0 n).set 0 { thC 0 0 with l := (thC 0 0).l.set 0 (rW (n - 1)) }
theorem ring_length (n : Nat) : (ring n).length = n := by simp [ring, chn_length]
theorem ring_ok (n : Nat) (hn : 0 < n) : ∀ (i : Nat) t, (ring n)[i]? = some t → OkT (ring n).length t := by
  refine okT_upd (okT_chn 0 n (by omega)) 0 _ ?_
  rw [chn_length]
  exact okT_set (okT_thC 0 0 n (by omega) (by omega)) (by omega) (OkW.ref (by omega))
def LR (n : Nat) : List Vl := [noneVl, refVl (n - 1), noneVl, zeroVl]
def LE : List Vl := [noneVl, noneVl, noneVl, zeroVl]
theorem runs2 (n : Nat) (hn : 0 < n) (hn1 : n ≤ 1000) : ∃ v, Runs (stW (chn 0 n) (some (L n)) g2) zeroVl 0 [⟨4, 0, 1, 0, 0, 0, 0⟩, ⟨13, 0, 0, 0, 0, 0, 0⟩, ⟨13, 2, 0, 0, 0, 0, 0⟩] v 0 (stW (ring n) (some (LR n)) g2) := by
  have h1 : Stp (stW (chn 0 n) (some (L n)) g2) ⟨4, 0, 1, 0, 0, 0, 0⟩ zeroVl 0 (stW (ring n) (some (L n)) g2) :=
    stp_store (st := stW (chn 0 n) (some (L n)) g2) (l := L n) rfl (by show (4 : Int) ≤ 4; omega) (by simp [stW, chn_length]; omega) 0 1 0 0 (thC 0 0) (rW (n - 1)).1 (rW (n - 1)).2 rfl rfl (chn_get 0 n 0 hn) rfl (by decide) rfl (by simp [thC]) 0 0 0
  have h2 : Stp (stW (ring n) (some (L n)) g2) ⟨13, 0, 0, 0, 0, 0, 0⟩ noneVl 0 (stW (ring n) (some ((L n).set 0 noneVl)) g2) :=
    stp_clear (st := stW (ring n) (some (L n)) g2) (l := L n) rfl (by show (4 : Int) ≤ 4; omega) 0 (by simp [L]) 0 0 0 0 0
  have h3 : Stp (stW (ring n) (some ((L n).set 0 noneVl)) g2) ⟨13, 2, 0, 0, 0, 0, 0⟩ noneVl 0 (stW (ring n) (some (LR n)) g2) :=
    stp_clear (st := stW (ring n) (some ((L n).set 0 noneVl)) g2) (l := (L n).set 0 noneVl) rfl (by show (4 : Int) ≤ 4; omega) 2 (by simp [L]) 0 0 0 0 0
  exact ⟨_, .cons h1 (.cons h2 (.cons h3 .nil))⟩
theorem runs3 (n : Nat) : ∃ v, Runs (stW (ring n) (some (LR n)) g2) zeroVl 0 [⟨13, 1, 0, 0, 0, 0, 0⟩] v 0 (stW (ring n) (some LE) g2) := by
  have h1 : Stp (stW (ring n) (some (LR n)) g2) ⟨13, 1, 0, 0, 0, 0, 0⟩ noneVl 0 (stW (ring n) (some LE) g2) :=
    stp_clear (st := stW (ring n) (some (LR n)) g2) (l := LR n) rfl (by show (4 : Int) ≤ 4; omega) 1 (by simp [LR]) 0 0 0 0 0
  exact ⟨_, .cons h1 .nil⟩
theorem well1 (n : Nat) (hn : 0 < n) (hn1 : n ≤ 1000) : WellF (stW (ring n) (some (LR n)) g2) := by
  refine wellW _ _ _ (ring_ok n hn) ?_ ?_ (by rw [ring_length]; omega)
  · intro l e v hv hr
    injection e with e
    subst e
    rw [ring_length]
    simp [LR] at hv
    rcases hv with rfl | rfl | rfl | rfl
    · exact OkW.none n
    · exact OkW.ref (n := n) (i := n - 1) (by omega)
    · exact OkW.none n
    · cases hr
  · intro v hv
    simp at hv
    subst hv
    exact OkW.none _
theorem well2 (n : Nat) (hn : 0 < n) (hn1 : n ≤ 1000) : WellF (stW (ring n) (some LE) g2) := by
  refine wellW _ _ _ (ring_ok n hn) ?_ ?_ (by rw [ring_length]; omega)
  · intro l e v hv hr
    injection e with e
    subst e
    simp [LE] at hv
    rcases hv with rfl | rfl
    · exact OkW.none _
    · cases hr
  · intro v hv
    simp at hv
    subst hv
    exact OkW.none _
theorem all1 (n : Nat) (hn : 0 < n) (hn1 : n ≤ 1000) : ∀ i, i < (ring n).length → Rch (stW (ring n) (some (LR n)) g2) i := by
  rw [ring_length]
  refine all_down (ring_length n).symm ?_ (fun i h0 hi => ?_)
  · exact .loc (l := LR n) (v := refVl (n - 1)) rfl (by simp [LR]) rfl rfl (by show _ < (ring n).length; rw [ring_length]; omega)
  · refine ⟨thC 0 i, 0, ?_, (zero_of_thC 0 i (by omega) h0).1, (zero_of_thC 0 i (by omega) h0).2⟩
    show (ring n)[i]? = _
    unfold ring
    rw [List.getElem?_set_ne (by omega)]
    exact chn_get 0 n i hi
theorem none2 (n : Nat) (hn1 : n ≤ 1000) (i : Nat) : ¬ Rch (stW (ring n) (some LE) g2) i := by
  refine none_up (by show (ring n).length ≤ _; rw [ring_length]; omega) (fun v hv => ?_) (fun l e v hv hr => ?_) i
  · simp [stW] at hv
    subst hv; rfl
  · simp only [stW, Option.some.injEq] at e
    subst e
    simp [LE] at hv
    rcases hv with rfl | rfl
    · rfl
    · cases hr

set_option maxRecDepth 100000 in
set_option maxHeartbeats 8000000 in
theorem out (n : Int) (w : World) (h : n < 1 ∨ 100 < n) : Calls Try.prog 3 #[.int .i64 n] w fun e w' => e = .returned (.bool true) ∧ Pure w w' := by
  go_enter Try.func3, Try.ntmps3
  go_wp2_with fail
  refine (first_any _).mono ?_
  rintro e w1 ⟨rfl, hp1⟩
  have P1 := Lib.hid hp1
  clear hp1
  go_wp2_with fail
  refine (wide_any _).mono ?_
  rintro e w2 ⟨b, v1, v2, v3, rfl, hp2, hs⟩
  have P2 := Lib.hid (P1.out.then hp2)
  have HS := Lib.hid hs
  clear hp2 hs
  unfold cnV cW
  go_wp2_with fail
  refine (newW (HS.out.pure ((Only.refl _ _).alloc _))).mono ?_
  rintro e w3 ⟨G, rfl, hx⟩
  have X3 := Lib.hid hx
  clear hx
  go_wp2_with fail
  refine (joinW X3.out).mono ?_
  rintro e w4 ⟨rfl, hx, -⟩
  have X4 := Lib.hid hx
  clear hx
  have P4 := Lib.hid (show Pure w w4 from Pure.then (P2.out.alloc _) X4.out.pu)
  rcases h with h | h
  · go_wp2_with fail
    refine (first_any _).mono ?_
    rintro e w5 ⟨rfl, hp5⟩
    have P5 := Lib.hid hp5
    clear hp5
    go_wp2_with fail
    go_ret
    exact ⟨rfl, P4.out.then P5.out⟩
  · have h1 : ¬ n < 1 := by omega
    go_wp2_with fail
    refine (first_any _).mono ?_
    rintro e w5 ⟨rfl, hp5⟩
    have P5 := Lib.hid hp5
    clear hp5
    go_wp2_with fail
    go_ret
    exact ⟨rfl, P4.out.then P5.out⟩


set_option maxRecDepth 100000 in
set_option maxHeartbeats 16000000 in
theorem main (n : Nat) (w : World) (hn : 1 ≤ n) (hn1 : n ≤ 100) : Calls Try.prog 3 #[.int .i64 n] w fun e w' => e = .returned (.bool true) ∧ Pure w w' := by
  have ha : ¬ (n : Int) < 1 := by omega
  have hb : ¬ 100 < (n : Int) := by omega
  go_enter Try.func3, Try.ntmps3
  go_wp2_with fail
  refine (first_any _).mono ?_
  rintro e w1 ⟨rfl, hp1⟩
  have P1 := Lib.hid hp1
  clear hp1
  go_wp2_with fail
  refine (wide_any _).mono ?_
  rintro e w2 ⟨b, v1, v2, v3, rfl, hp2, hs⟩
  have P2 := Lib.hid (P1.out.then hp2)
  have HS := Lib.hid hs
  clear hp2 hs
  unfold cnV cW
  go_wp2_with fail
  refine (newW (HS.out.pure ((Only.refl _ _).alloc _))).mono ?_
  rintro e w3 ⟨G, rfl, hx⟩
  have X3 := Lib.hid hx
  clear hx
  go_wp2_with fail
  refine (joinW X3.out).mono ?_
  rintro e w4 ⟨rfl, hx, -⟩
  obtain ⟨W0, hW0⟩ : ∃ W0, W0 = w2.alloc (.cells #[.int .i64 60, .int .i64 60, .int .i64 2, .int .i64 2, .int .i64 4, .int .i64 0, .int .i64 4, .int .i64 0, .slice (some ⟨b, 0, none⟩) 3 3] 25) := ⟨_, rfl⟩
  have X4 := Lib.hid (show Gx W0 (fun _ => False) G (stW [] (some l0) g2) w4 from hW0 ▸ hx)
  have P4 := Lib.hid (show Pure w W0 from hW0 ▸ P2.out.alloc _)
  clear hx hW0
  go_wp2_with fail
  refine (X4.out.oneNew runs0 (by simp)).mono ?_
  rintro e w5 ⟨r, x, y, rfl, hx, -⟩
  have X5 := Lib.hid (hx.keep ((Only.refl _ w5).alloc (.cells #[.bool r, .complex .f64 x y] 34)))
  clear hx
  go_wp2_with fail
  generalize w5.alloc (.cells #[.bool r, .complex .f64 x y] 34) = w6 at *
  go_loopw [7, 8] (fun f i wr => ∃ k : Nat, 1 ≤ k ∧ k ≤ n ∧ f = .int .i64 0 ∧ i = .int .i64 k ∧ Gx W0 (fun _ => False) G (stW (chn 0 k) (some (L k)) g2) wr) (fun _ i _ => n - (intOf i).toNat)
  case atStart => exact ⟨1, Nat.le_refl _, hn, rfl, rfl, X5.out⟩
  case round =>
    clear X5 X4
    obtain ⟨k, hk0, hk, rfl, rfl, hx⟩ := hrel
    have X := Lib.hid hx
    clear hx
    by_cases hlt : k < n
    · go_wp2_with fail
      refine (X.out.oneNew (runs1 k hk0 (by omega)) (by simp)).mono ?_
      rintro e w7 ⟨r1, x1, y1, rfl, hx, -⟩
      have X7 := Lib.hid hx
      clear hx
      go_wp2_with fail
      go_roundw
      case rel => exact ⟨k + 1, by omega, by omega, rfl, by go_num, X7.out⟩
      case measure => simp [intOf]; omega
    · obtain rfl : k = n := by omega
      go_wp2_with fail
      refine (X.out.oneNew (runs2 k hk0 (by omega)) (by simp)).mono ?_
      rintro e w7 ⟨r1, x1, y1, rfl, hx, -⟩
      have X7 := Lib.hid (hx.keep ((Only.refl _ w7).alloc (.cells #[.bool r1, .complex .f64 x1 y1] 34)))
      obtain ⟨q1, q2, q3⟩ := liveW (ring k) (some (LR k)) g2 (ring_ok k hk0) (all1 k hk0 (by omega))
      rw [ring_length] at q1 q2
      have Q1 := Lib.hid q1
      have Q2 := Lib.hid q2
      have Q3 := Lib.hid q3
      clear hx q1 q2 q3
      go_wp2_with fail
      generalize w7.alloc (.cells #[.bool r1, .complex .f64 x1 y1] 34) = w8 at *
      refine (X7.out.reach (well1 k hk0 (by omega)) (by simp [stW]) k Q1.out).mono ?_
      rintro e w9 ⟨A9, c9, rfl, hx, -⟩
      have X9 := Lib.hid hx
      clear hx
      go_wp2_with fail
      refine (X9.out.live (well1 k hk0 (by omega)) (by simp [stW]) (szOkW _ _ _ (ring_ok k hk0)) k 0 Q2.out Q3.out).mono ?_
      rintro e w10 ⟨rfl, hx, -⟩
      have X10 := Lib.hid hx
      clear hx
      go_wp2_with fail
      refine (X10.out.oneNew (runs3 k) (by simp)).mono ?_
      rintro e w11 ⟨r2, x2, y2, rfl, hx, -⟩
      have X11 := Lib.hid (hx.keep ((Only.refl _ w11).alloc (.cells #[.bool r2, .complex .f64 x2 y2] 34)))
      obtain ⟨q1, q2, q3⟩ := liveW0 (stW (ring k) (some LE) g2) (none2 k (by omega))
      have Q4 := Lib.hid q1
      have Q5 := Lib.hid q2
      have Q6 := Lib.hid q3
      clear hx q1 q2 q3
      go_wp2_with fail
      generalize w11.alloc (.cells #[.bool r2, .complex .f64 x2 y2] 34) = w12 at *
      refine (X11.out.live (well2 k hk0 (by omega)) (by simp [stW]) (szOkW _ _ _ (ring_ok k hk0)) 0 0 Q5.out Q6.out).mono ?_
      rintro e w13 ⟨rfl, hx, -⟩
      have X13 := Lib.hid hx
      clear hx
      go_wp2_with fail
      refine (first_any _).mono ?_
      rintro e w14 ⟨rfl, hp14⟩
      have X14 := Lib.hid (X13.out.keep hp14)
      clear hp14
      go_wp2_with fail
      refine (X14.out.reach (well2 k hk0 (by omega)) (by simp [stW]) 0 Q4.out).mono ?_
      rintro e w15 ⟨A15, c15, rfl, hx, -⟩
      have X15 := Lib.hid hx
      clear hx
      go_wp2_with fail
      refine (X15.out.len k (ring_length k)).mono ?_
      rintro e w16 ⟨rfl, rfl⟩
      go_wp2_with fail
      go_ret
      exact ⟨rfl, P4.out.then X15.out.pu⟩

theorem walk (w : World) (n : Int) (_ : -9223372036854775808 ≤ n ∧ n ≤ 9223372036854775807) :
    Calls Try.prog 3 #[.int .i64 n] w fun e w' => e = .returned (.bool true) ∧ Pure w w' := by
  by_cases h : n < 1 ∨ 100 < n
  · exact out n w h
  · obtain ⟨m, rfl⟩ := Int.eq_ofNat_of_zero_le (show 0 ≤ n by omega)
    exact main m w (by omega) (by omega)

set_option maxRecDepth 100000 in
theorem lifted (os : Os) (started : os.Started) (H : Type) (enc : TypeId × Value → H) :
    ReturnsInHanded {} Try.checked os 3 .any (Rows.graphCyclesSpec.pre6 enc Try.prog Try.f3 Rows.graphCyclesRow.domain false) (Rows.graphCyclesSpec.post enc Try.prog Try.f3 false true false false) :=
  lift_law (C := Try.checked) own started (by kernel_rfl) Try.func3 laidOut (by kernel_rfl) rfl rfl Try.underlying4
    (fun ds h => by match ds, h with | [_], _ => rfl)
    (ChangeSpec.witness6 (enc := enc) (C := Try.checked) false ⟨#[], #[.int .i64 0], []⟩ 8 (by kernel_rfl) (by kernel_rfl) (by kernel_rfl) (by kernel_rfl))
    (fun W base args ds ps hval hA hlt => by
      have hA' : DataW.TrodAll enc Try.prog W 0 (fun _ => true) true Try.f3.params.toList args.toList ds ps := hA
      rw [Try.params3] at hA'
      have hval' : ∀ (j : Nat) t v, Try.f3.params[j]? = some t → args[j]? = some v → Value.okWide Try.prog W .any base t v := hval
      rw [Try.params3] at hval'
      obtain ⟨v0, vs0, d0, ds0, p0, q0, hargs, rfl, rfl, h0, r0⟩ := trodAll_cons hA'
      obtain ⟨rfl, rfl, rfl⟩ := trodAll_nil r0
      obtain rfl : args = #[v0] := by cases args; simp_all
      obtain ⟨a0, rfl, rfl, rfl, w0⟩ := open_int Try.underlying3 (hval' 0 3 v0 rfl rfl) h0
      exact (walk W a0 (int_bounds w0)).mono fun e W' ⟨he, hp⟩ => ⟨he, hp.below⟩)

/-- The statement. -/
theorem proved : Rows.GraphCyclesSaid :=
  OpenClaim.holds_of_wide 3 Try.f3 rfl rfl rfl rfl rfl rfl rfl ⟨rfl, rfl, rfl, rfl, rfl⟩ rfl rfl rfl rfl rfl (by kernel_rfl) Try.func3 (by kernel_rfl)
    (of_decide_eq_true (by kernel_rfl)) (by unfold Func.isWrapper; first | (rw [if_pos (by decide +kernel)]; kernel_rfl) | (rw [if_neg (by decide +kernel)]; exact ⟨rfl, rfl⟩))
    (fun os started H enc _ => lifted os started H enc)
#print axioms proved

end Go.Proofs.Ytpllolefmijfdaa.graphCycles
