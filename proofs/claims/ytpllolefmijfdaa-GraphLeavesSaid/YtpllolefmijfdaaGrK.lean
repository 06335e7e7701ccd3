/-
  The law GraphLeaves: what a thread alone refers to is not reached any more when it has left; what a global refers to is; it can join anew, with nothing.
-/
import Derived.Test.YtpllolefmijfdaaGrJ
namespace Go.Proofs.Ytpllolefmijfdaa
open Go.RowKit Go.ChangeShapes Go.WideShapes Go.ChangeAt

section
variable {w0 w w' : World} {F : Nat → Prop} {G : Nat} {st : GS}
theorem Gx.locNone (h : Gx w0 F G st w) (hl : st.loc = none) : Calls Try.prog 17 #[.pointer (some ⟨G, 0, none⟩), .int .i64 0] w fun e w' => e = .returned (.slice none 0 0) ∧ Gx w0 F G st w' := by
  have h' := h
  obtain ⟨⟨κ, y, h1, -, -⟩, -⟩ := h
  exact (locals_none h1 hl).mono fun e w' ⟨a, b⟩ => ⟨a, h'.keep b⟩
theorem Gx.locSome (h : Gx w0 F G st w) (l : List Vl) (hl : st.loc = some l) : Calls Try.prog 17 #[.pointer (some ⟨G, 0, none⟩), .int .i64 0] w fun e w' => ∃ A c, e = .returned (.slice A l.length c) ∧ Gx w0 F G st w' ∧ w'.ownsRow w.heap.size 34 2 (.slice A l.length c) l.length (vcs l) := by
  have h' := h
  obtain ⟨⟨κ, y, h1, -, -⟩, -⟩ := h
  exact (locals_some h1 l hl).mono fun e w' ⟨v, a, b, c⟩ => by
    obtain ⟨A, d, rfl⟩ := own_form c
    exact ⟨A, d, a, h'.keep b, c⟩
theorem Gx.glos (h : Gx w0 F G st w) (n : Nat) (hn : st.glo.length = n) (h0 : 0 < n) (h1 : n ≤ 1000000) : Calls Try.prog 18 #[.pointer (some ⟨G, 0, none⟩)] w fun e w' => ∃ A c, e = .returned (.slice A n c) ∧ Gx w0 F G st w' := by
  subst hn
  have h' := h
  obtain ⟨⟨κ, y, h2, -, -⟩, -⟩ := h
  exact (globals_any h2 h0 h1).mono fun e w' ⟨v, a, b, c⟩ => by
    obtain ⟨A, d, rfl⟩ := own_form c
    exact ⟨A, d, a, h'.keep b⟩
end

namespace graphLeaves
def L (k : Nat) : List Vl := [refVl (k - 1), if k = 1 then zeroVl else refVl (k - 1), zeroVl, zeroVl]
theorem runs0 : ∃ v, Runs (stW [] (some l0) g2) zeroVl 0 [⟨1, 0, 0, 0, 0, 0, 0⟩] v 0 (stW (chn 1 1) (some (L 1)) g2) := by
  have h1 : Stp (stW [] (some l0) g2) ⟨1, 0, 0, 0, 0, 0, 0⟩ (refVl 0) 0 (stW (chn 1 1) (some (L 1)) g2) :=
    stp_new (st := stW [] (some l0) g2) (l := l0) rfl (by show (4 : Int) ≤ 4; omega) (by show 0 ≤ 100000; omega) 0 0 (by simp) b3 rfl (by simp) (by rw [show b3.length = 3 from rfl, size3]; omega) (by rw [show b3.length = 3 from rfl, size3]; show (1 : Int) ≤ 60; omega) (by show (0 : Int) ≤ 60; omega) 0 0 0
  exact ⟨_, .cons h1 .nil⟩
theorem runs1 (k : Nat) (hk : 0 < k) (hk1 : k ≤ 1000) : ∃ v, Runs (stW (chn 1 k) (some (L k)) g2) zeroVl 0 [⟨1, 1, 0, 0, 0, 0, 0⟩, ⟨4, 1, 0, 0, 1, 0, 0⟩, ⟨14, 0, 1, 0, 0, 0, 0⟩] v 0 (stW (chn 1 (k + 1)) (some (L (k + 1))) g2) := by
  have := runs_chain 1 k 1 0 0 (by omega) hk hk1 (L k) g2 rfl (by omega) (by omega) (by omega) (by omega) rfl
  have e : ((L k).set 1 (refVl k)).set 0 (refVl k) = L (k + 1) := by
    have h1 : ¬ k + 1 = 1 := by omega
    simp [L]
    omega
  rw [e] at this
  exact this
def gK (keep : Bool) (n : Nat) : List Vl := if keep then [noneVl, refVl (n - 1)] else g2
theorem gK_len (keep : Bool) (n : Nat) : (gK keep n).length = 2 := by cases keep <;> rfl
theorem runsK (n : Nat) : ∃ v, Runs (stW (chn 1 n) (some (L n)) g2) zeroVl 0 [⟨8, 0, 0, 0, 1, 0, 0⟩] v 0 (stW (chn 1 n) (some (L n)) (gK true n)) := by
  have h1 : Stp (stW (chn 1 n) (some (L n)) g2) ⟨8, 0, 0, 0, 1, 0, 0⟩ zeroVl 0 (stW (chn 1 n) (some (L n)) (gK true n)) :=
    stp_set (st := stW (chn 1 n) (some (L n)) g2) (l := L n) rfl (by show (4 : Int) ≤ 4; omega) 0 1 (refVl (n - 1)) noneVl rfl rfl rfl (by show (2 : Int) ≤ 2; omega) (by show 2 ≤ 1000000; omega) 0 0 0 0
  exact ⟨_, .cons h1 .nil⟩
theorem runsL (keep : Bool) (n : Nat) : ∃ v, Runs (stW (chn 1 n) (some (L n)) (gK keep n)) zeroVl 0 [⟨18, 0, 0, 0, 0, 0, 0⟩] v 0 (stW (chn 1 n) none (gK keep n)) := by
  have h1 : Stp (stW (chn 1 n) (some (L n)) (gK keep n)) ⟨18, 0, 0, 0, 0, 0, 0⟩ zeroVl 0 (stW (chn 1 n) none (gK keep n)) :=
    stp_leave (st := stW (chn 1 n) (some (L n)) (gK keep n)) (l := L n) rfl 0 0 0 0 0 0
  exact ⟨_, .cons h1 .nil⟩
theorem runsC (keep : Bool) (n : Nat) : ∃ v, Runs (stW (chn 1 n) none (gK keep n)) zeroVl 0 [⟨13, 0, 0, 0, 0, 0, 0⟩] v 8 (stW (chn 1 n) none (gK keep n)) := by
  have h1 : Stp (stW (chn 1 n) none (gK keep n)) ⟨((13 : Nat) : Int), 0, 0, 0, 0, 0, 0⟩ zeroVl 8 (stW (chn 1 n) none (gK keep n)) := stp_state rfl 13 0 0 0 0 0 0
  exact ⟨_, .cons h1 .nil⟩
theorem gK_ok (keep : Bool) (n : Nat) (hn : 0 < n) : ∀ v ∈ gK keep n, OkW (chn 1 n).length (v.x, v.y) := by
  intro v hv
  rw [chn_length]
  cases keep
  · simp [gK] at hv
    subst hv
    exact OkW.none _
  · simp [gK] at hv
    rcases hv with rfl | rfl
    · exact OkW.none _
    · exact OkW.ref (n := n) (i := n - 1) (by omega)
theorem well1 (keep : Bool) (n : Nat) (hn : 0 < n) (hn1 : n ≤ 1000) : WellF (stW (chn 1 n) (some (L n)) (gK keep n)) := by
  refine wellW _ _ _ (okT_chn 1 n (by omega)) ?_ (gK_ok keep n hn) (by rw [chn_length]; omega)
  intro l e v hv hr
  injection e with e
  subst e
  rw [chn_length]
  have href : OkW n ((refVl (n - 1)).x, (refVl (n - 1)).y) := OkW.ref (n := n) (i := n - 1) (by omega)
  unfold L at hv
  by_cases h1 : n = 1
  · simp [h1] at hv
    rcases hv with rfl | rfl
    · subst h1; exact href
    · cases hr
  · simp [h1] at hv
    rcases hv with rfl | rfl
    · exact href
    · cases hr
theorem well2 (keep : Bool) (n : Nat) (hn : 0 < n) (hn1 : n ≤ 1000) : WellF (stW (chn 1 n) none (gK keep n)) :=
  wellW _ _ _ (okT_chn 1 n (by omega)) (fun l e => by cases e) (gK_ok keep n hn) (by rw [chn_length]; omega)
theorem down {l : Option (List Vl)} {g : List Vl} (n : Nat) (hroot : Rch (stW (chn 1 n) l g) (n - 1)) : ∀ i, i < (chn 1 n).length → Rch (stW (chn 1 n) l g) i := by
  rw [chn_length]
  refine all_down (chn_length 1 n).symm hroot (fun i h0 hi => ?_)
  exact ⟨thC 1 i, 1, chn_get 1 n i hi, (zero_of_thC 1 i (by omega) h0).1, (zero_of_thC 1 i (by omega) h0).2⟩
theorem all1 (keep : Bool) (n : Nat) (hn : 0 < n) : (reachL (stW (chn 1 n) (some (L n)) (gK keep n))).length = n := by
  rw [reachL_all (down n (.loc (l := L n) (v := refVl (n - 1)) rfl (by simp [L]) rfl rfl (by show _ < (chn 1 n).length; rw [chn_length]; omega)))]
  simp [stW, chn_length]
theorem all2 (keep : Bool) (n : Nat) (hn : 0 < n) (hn1 : n ≤ 1000) : (reachL (stW (chn 1 n) none (gK keep n))).length = if keep then n else 0 := by
  cases keep
  · rw [reachL_none (fun i _ => none_up (by show (chn 1 n).length ≤ _; rw [chn_length]; omega) (fun v hv => ?_) (fun l e => by cases e) i)]
    · rfl
    · simp [stW, gK] at hv
      subst hv; rfl
  · rw [reachL_all (down n (.glo (v := refVl (n - 1)) (by simp [stW, gK]) rfl (by show _ < (chn 1 n).length; rw [chn_length]; omega)))]
    simp [stW, chn_length]

set_option maxRecDepth 100000 in
set_option maxHeartbeats 8000000 in
theorem out (n : Int) (keep : Bool) (w : World) (h : n < 1 ∨ 20 < n) : Calls Try.prog 5 #[.int .i64 n, .bool keep] w fun e w' => e = .returned (.bool true) ∧ Pure w w' := by
  go_enter Try.func5, Try.ntmps5
  go_wp2_with fail
  refine (first_any _).mono ?_
  rintro e w1 ⟨rfl, hp1⟩
  have P1 := Lib.hid hp1
  clear hp1
  go_wp2_with fail
  refine (wide_any _).mono ?_
  rintro e w2 ⟨b, v1, v2, v3, rfl, hp2, hs⟩
  have P2 := Lib.hid (P1.out.then hp2)
  have HS := Lib.hid hs
  clear hp2 hs
  unfold cnV cW
  go_wp2_with fail
  refine (newW HS.out).mono ?_
  rintro e w3 ⟨G, rfl, hx⟩
  have X3 := Lib.hid hx
  clear hx
  go_wp2_with fail
  refine (joinW X3.out).mono ?_
  rintro e w4 ⟨rfl, hx, -⟩
  have X4 := Lib.hid hx
  clear hx
  have P4 := Lib.hid (show Pure w w4 from Pure.then P2.out X4.out.pu)
  rcases h with h | h
  · go_wp2_with fail
    refine (first_any _).mono ?_
    rintro e w5 ⟨rfl, hp5⟩
    have P5 := Lib.hid hp5
    clear hp5
    go_wp2_with fail
    go_ret
    exact ⟨rfl, P4.out.then P5.out⟩
  · have h1 : ¬ n < 1 := by omega
    go_wp2_with fail
    refine (first_any _).mono ?_
    rintro e w5 ⟨rfl, hp5⟩
    have P5 := Lib.hid hp5
    clear hp5
    go_wp2_with fail
    go_ret
    exact ⟨rfl, P4.out.then P5.out⟩

set_option maxRecDepth 100000 in
set_option maxHeartbeats 16000000 in
theorem main (n : Nat) (keep : Bool) (w : World) (hn : 1 ≤ n) (hn1 : n ≤ 20) : Calls Try.prog 5 #[.int .i64 n, .bool keep] w fun e w' => e = .returned (.bool true) ∧ Pure w w' := by
  have ha : ¬ (n : Int) < 1 := by omega
  have hb : ¬ 20 < (n : Int) := by omega
  go_enter Try.func5, Try.ntmps5
  go_wp2_with fail
  refine (first_any _).mono ?_
  rintro e w1 ⟨rfl, hp1⟩
  have P1 := Lib.hid hp1
  clear hp1
  go_wp2_with fail
  refine (wide_any _).mono ?_
  rintro e w2 ⟨b, v1, v2, v3, rfl, hp2, hs⟩
  have P4 := Lib.hid (P1.out.then hp2)
  have HS := Lib.hid hs
  clear hp2 hs
  unfold cnV cW
  go_wp2_with fail
  refine (newW HS.out).mono ?_
  rintro e w3 ⟨G, rfl, hx⟩
  have X3 := Lib.hid hx
  clear hx
  go_wp2_with fail
  refine (joinW X3.out).mono ?_
  rintro e w4 ⟨rfl, hx, -⟩
  have X4 := Lib.hid hx
  clear hx
  go_wp2_with fail
  refine (X4.out.oneNew runs0 (by simp)).mono ?_
  rintro e w5 ⟨r, x, y, rfl, hx, -⟩
  have X5 := Lib.hid (hx.keep ((Only.refl _ w5).alloc (.cells #[.bool r, .complex .f64 x y] 34)))
  clear hx
  go_wp2_with fail
  generalize w5.alloc (.cells #[.bool r, .complex .f64 x y] 34) = w6 at *
  go_loopw [8, 9] (fun f i wr => ∃ k : Nat, 1 ≤ k ∧ k ≤ n ∧ f = .int .i64 0 ∧ i = .int .i64 k ∧ Gx w2 (fun _ => False) G (stW (chn 1 k) (some (L k)) g2) wr) (fun _ i _ => n - (intOf i).toNat)
  case atStart => exact ⟨1, Nat.le_refl _, hn, rfl, rfl, X5.out⟩
  case round =>
    clear X5 X4
    obtain ⟨k, hk0, hk, rfl, rfl, hx⟩ := hrel
    have X := Lib.hid hx
    clear hx
    by_cases hlt : k < n
    · go_wp2_with fail
      refine (X.out.oneNew (runs1 k hk0 (by omega)) (by simp)).mono ?_
      rintro e w7 ⟨r1, x1, y1, rfl, hx, -⟩
      have X7 := Lib.hid hx
      clear hx
      go_wp2_with fail
      go_roundw
      case rel => exact ⟨k + 1, by omega, by omega, rfl, by go_num, X7.out⟩
      case measure => simp [intOf]; omega
    · obtain rfl : k = n := by omega
      have Q1 := fun kp => Lib.hid (all1 kp k hk0)
      have Q2 := fun kp => Lib.hid (all2 kp k hk0 (by omega))
      cases keep
      case' false =>
        have X8 := Lib.hid (show Gx w2 (fun _ => False) G (stW (chn 1 k) (some (L k)) (gK false k)) wr from X.out)
        have Q1 := Q1 false
        have Q2 := Q2 false
        obtain ⟨w8, hw8⟩ : ∃ w8, w8 = wr := ⟨_, rfl⟩
        rw [← hw8] at X8 ⊢
        clear hw8 X
        go_wp2_with fail
      case' true =>
        go_wp2_with fail
        refine (X.out.oneNew (runsK k) (by simp)).mono ?_
        rintro e w8 ⟨r1, x1, y1, rfl, hx, -⟩
        have X8 := Lib.hid hx
        have Q1 := Q1 true
        have Q2 := Q2 true
        clear hx X
        go_wp2_with fail
      all_goals
        refine (X8.out.reach (well1 _ k hk0 (by omega)) (by simp only [stW]; rw [gK_len]; omega) k Q1.out).mono ?_
        rintro e w9 ⟨A9, c9, rfl, hx, -⟩
        have X9 := Lib.hid hx
        clear hx
        go_wp2_with fail
        refine (X9.out.oneNew (runsL _ k) (by simp)).mono ?_
        rintro e w10 ⟨r2, x2, y2, rfl, hx, -⟩
        have X10 := Lib.hid (hx.keep ((Only.refl _ w10).alloc (.cells #[.bool r2, .complex .f64 x2 y2] 34)))
        clear hx
        go_wp2_with fail
        rw [show w10.heap.size + 1 = (w10.alloc (.cells #[.bool r2, .complex .f64 x2 y2] 34)).heap.size from by simp]
        generalize w10.alloc (.cells #[.bool r2, .complex .f64 x2 y2] 34) = w11 at *
        refine (X10.out.oneNew (runsC _ k) (by simp)).mono ?_
        rintro e w12 ⟨r3, x3, y3, rfl, hx, -⟩
        have X12 := Lib.hid (hx.keep ((Only.refl _ w12).alloc (.cells #[.bool r3, .complex .f64 x3 y3] 34)))
        clear hx
        go_wp2_with fail
        generalize w12.alloc (.cells #[.bool r3, .complex .f64 x3 y3] 34) = w13 at *
        refine (X12.out.reach (well2 _ k hk0 (by omega)) (by simp only [stW]; rw [gK_len]; omega) _ Q2.out).mono ?_
        rintro e w14 ⟨A14, c14, rfl, hx, -⟩
        have X14 := Lib.hid hx
        clear hx
        dsimp only [if_true, if_false]
        go_wp2_with fail
        refine (X14.out.locNone rfl).mono ?_
        rintro e w15 ⟨rfl, hx⟩
        have X15 := Lib.hid hx
        clear hx
        go_wp2_with fail
        refine (joinW X15.out).mono ?_
        rintro e w16 ⟨rfl, hx, -⟩
        have X16 := Lib.hid hx
        clear hx
        go_wp2_with fail
        refine (X16.out.locSome l0 rfl).mono ?_
        rw [show l0.length = 4 from rfl]
        rintro e w17 ⟨A17, c17, rfl, hx, hown⟩
        have X17 := Lib.hid hx
        have OWN := Lib.hid hown
        clear hx hown
        go_wp2_with fail
        go_loopw [16] (fun i wr => ∃ j : Nat, j ≤ 4 ∧ i = .int .i64 j ∧ Pure w17 wr) (fun i _ => 4 - (intOf i).toNat)
        case atStart => exact ⟨0, by omega, rfl, Only.refl _ _⟩
        case round =>
          obtain ⟨j, hj, rfl, hp⟩ := hrel
          have HP := Lib.hid hp
          clear hp
          by_cases hlt4 : j < 4
          · obtain ⟨g, cap, e, -⟩ := OWN.out.form (by omega)
            injection e with e1 e2 e3
            subst e1
            clear e2 e3
            have hz : l0[j]? = some zeroVl := by rcases (by omega : j = 0 ∨ j = 1 ∨ j = 2 ∨ j = 3) with rfl | rfl | rfl | rfl <;> rfl
            obtain ⟨z1, z2⟩ := vcs_get l0 j zeroVl hz
            have d1 : wr.cell? ⟨g, j * 2, none⟩ = some (.bool false) := Pure.keep HP.out (by rw [OWN.out.cellAt _ (by omega)]; exact z1)
            have d2 : wr.cell? ⟨g, j * 2 + 1, none⟩ = some (.complex .f64 0 0) := Pure.keep HP.out (by rw [OWN.out.cellAt _ (by omega)]; exact z2)
            clear z1 z2 hz
            go_wp2_with fail
            refine (word_any 0 0 0 0 _ (by omega) (by omega) (by omega) (by omega)).mono ?_
            rw [show sameB 0 0 0 0 = true from rfl]
            rintro e w18 ⟨rfl, rfl⟩
            go_wp2_with fail
            go_roundw
            case rel => first | exact ⟨j + 1, by omega, by go_num, HP.out⟩ | ((repeat apply Exists.intro); exact ⟨⟨j + 1, by omega, by go_num, HP.out⟩, rfl⟩)
            case measure => simp [intOf]; omega
          · obtain rfl : j = 4 := by omega
            go_wp2_with fail
            refine (first_any _).mono ?_
            rintro e w19 ⟨rfl, hp19⟩
            have X19 := Lib.hid (X17.out.keep (HP.out.then hp19))
            clear hp19
            go_wp2_with fail
            refine (X19.out.glos 2 (by simp only [stW]; exact gK_len _ k) (by omega) (by omega)).mono ?_
            rintro e w20 ⟨A20, c20, rfl, hx⟩
            have X20 := Lib.hid hx
            clear hx
            go_wp2_with fail
            go_ret
            exact ⟨rfl, P4.out.then X20.out.pu⟩

theorem walk (w : World) (n : Int) (_ : -9223372036854775808 ≤ n ∧ n ≤ 9223372036854775807) (keep : Bool) :
    Calls Try.prog 5 #[.int .i64 n, .bool keep] w fun e w' => e = .returned (.bool true) ∧ Pure w w' := by
  by_cases h : n < 1 ∨ 20 < n
  · exact out n keep w h
  · obtain ⟨m, rfl⟩ := Int.eq_ofNat_of_zero_le (show 0 ≤ n by omega)
    exact main m keep w (by omega) (by omega)

set_option maxRecDepth 100000 in
theorem lifted (os : Os) (started : os.Started) (H : Type) (enc : TypeId × Value → H) :
    ReturnsInHanded {} Try.checked os 5 .any (Rows.graphLeavesSpec.pre6 enc Try.prog Try.f5 Rows.graphLeavesRow.domain false) (Rows.graphLeavesSpec.post enc Try.prog Try.f5 false true false false) :=
  lift_law (C := Try.checked) own started (by kernel_rfl) Try.func5 laidOut (by kernel_rfl) rfl rfl Try.underlying4
    (fun ds h => by match ds, h with | [_, _], _ => rfl)
    (ChangeSpec.witness6 (enc := enc) (C := Try.checked) false ⟨#[], #[.int .i64 0, .bool false], []⟩ 8 (by kernel_rfl) (by kernel_rfl) (by kernel_rfl) (by kernel_rfl))
    (fun W base args ds ps hval hA hlt => by
      have hA' : DataW.TrodAll enc Try.prog W 0 (fun _ => true) true Try.f5.params.toList args.toList ds ps := hA
      rw [Try.params5] at hA'
      have hval' : ∀ (j : Nat) t v, Try.f5.params[j]? = some t → args[j]? = some v → Value.okWide Try.prog W .any base t v := hval
      rw [Try.params5] at hval'
      obtain ⟨v0, vs0, d0, ds0, p0, q0, hargs, rfl, rfl, h0, r0⟩ := trodAll_cons hA'
      obtain ⟨v1, vs1, d1, ds1, p1, q1, rfl, rfl, rfl, h1, r1⟩ := trodAll_cons r0
      obtain ⟨rfl, rfl, rfl⟩ := trodAll_nil r1
      obtain rfl : args = #[v0, v1] := by cases args; simp_all
      obtain ⟨a0, rfl, rfl, rfl, w0⟩ := open_int Try.underlying3 (hval' 0 3 v0 rfl rfl) h0
      obtain ⟨a1, rfl, rfl, rfl⟩ := open_bool Try.underlying4 (hval' 1 4 v1 rfl rfl) h1
      exact (walk W a0 (int_bounds w0) a1).mono fun e W' ⟨he, hp⟩ => ⟨he, hp.below⟩)

/-- The statement. -/
theorem proved : Rows.GraphLeavesSaid :=
  OpenClaim.holds_of_wide 5 Try.f5 rfl rfl rfl rfl rfl rfl rfl ⟨rfl, rfl, rfl, rfl, rfl⟩ rfl rfl rfl rfl rfl (by kernel_rfl) Try.func5 (by kernel_rfl)
    (of_decide_eq_true (by kernel_rfl)) (by unfold Func.isWrapper; first | (rw [if_pos (by decide +kernel)]; kernel_rfl) | (rw [if_neg (by decide +kernel)]; exact ⟨rfl, rfl⟩))
    (fun os started H enc _ => lifted os started H enc)
#print axioms proved

end Go.Proofs.Ytpllolefmijfdaa.graphLeaves
