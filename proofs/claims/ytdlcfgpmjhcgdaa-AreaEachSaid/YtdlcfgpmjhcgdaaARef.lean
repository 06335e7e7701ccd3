/-
  The contracts of the reference's own Check, in and MayShape of configurations.
-/
import Derived.Test.YtdlcfgpmjhcgdaaRow
namespace Go.Proofs.Ytdlcfgpmjhcgdaa
open Go.RowKit

theorem in_any (n a b : Int) (w : World) : Calls Try.prog 27 #[.int .i64 n, .int .i64 a, .int .i64 b] w fun e w' => e = .returned (.bool (withinB n a b)) ∧ w = w' := by
  by_cases h : a ≤ n
  · go_enter Try.func27, Try.ntmps27
    go_wp2
    go_ret
    exact ⟨ret_b (by simp [withinB, h]), rfl⟩
  · go_enter Try.func27, Try.ntmps27
    go_wp2
    go_ret
    exact ⟨ret_b (by rw [withinB, decide_eq_false (show ¬ a ≤ n by omega)]; rfl), rfl⟩

theorem mayref_any (a : Bool) (A : Option Addr) (n c : Nat) (w : World) (hn : n ≤ 9223372036854775807) :
    Calls Try.prog 28 #[shV a A n c] w fun e w' => e = .returned (.bool (mayB a n)) ∧ Pure w w' := by
  cases a
  · by_cases h1 : n ≤ 40
    · go_enter Try.func28, Try.ntmps28
      go_wp2
      go_ret
      exact ⟨ret_b (by simp [mayB, h1]; omega), (Only.refl _ _).alloc _⟩
    · go_enter Try.func28, Try.ntmps28
      go_wp2
      go_ret
      exact ⟨ret_b (by simp [mayB, h1]; omega), (Only.refl _ _).alloc _⟩
  · by_cases h2 : n = 1
    · subst h2
      go_enter Try.func28, Try.ntmps28
      go_wp2
      go_ret
      exact ⟨ret_b (by simp [mayB]), (Only.refl _ _).alloc _⟩
    · have h2' : ((n : Int) == 1) = false := by simp; omega
      go_enter Try.func28, Try.ntmps28
      go_wp2
      go_ret
      exact ⟨ret_b (by simp [mayB, h2]), (Only.refl _ _).alloc _⟩

/-- A configuration of which a test fails is out of range. -/
theorem check_one {c : Cn} {l : List Sh} {b : Bool} (hm : b ∈ tests c) (h : b = false) : checkI c l = 1 := by
  subst h
  rw [checkI, if_pos]
  simp only [List.all_eq_false]
  exact ⟨false, hm, by simp⟩

set_option maxRecDepth 100000 in
set_option maxHeartbeats 1000000 in
theorem refcheck_any (c : Cn) (v : Value) (l : List Sh) (w : World) (hl : ShsR w w.heap.size v l) :
    Calls Try.prog 20 #[cnV c v] w fun e w' => e = .returned (.int .i64 (checkI c l)) ∧ Pure w w' := by
  have HL := Lib.hid (fun (w' : World) (hp : Pure w w') => hl.pure hp)
  obtain ⟨⟨A, cc, rfl, h1, h2, h3⟩, h4⟩ := hl
  have H3 := Lib.hid h3
  have H4 := Lib.hid h4
  clear h3 h4
  have H2 := Lib.hid h2
  have H1 := Lib.hid h1
  clear h1 h2
  go_enter Try.func20, Try.ntmps20
  go_wp2_with fail
  have hr := Row.new w c (.slice A l.length cc)
  generalize w.alloc _ = W at hr ⊢
  generalize w.heap.size = X at hr H3 H4 ⊢
  have R := Lib.hid hr
  obtain ⟨c0, c1, c2, c3, c4, c5, c6, c7, c8, _⟩ := hr.cells
  clear hr
  refine (in_any c.frags 4 1024 W).mono ?_
  rintro e w1 ⟨rfl, rfl⟩
  cases t0 : withinB c.frags 4 1024 with
  | false =>
    have HT := Lib.hid t0
    clear t0
    go_wp2
    go_ret
    exact ⟨ret_i (check_one (by simp [tests]) HT.out), R.out.2.2⟩
  | true =>
    have HT0 := Lib.hid t0
    clear t0
    go_wp2_with fail
    refine (in_any c.spine 0 2048 W).mono ?_
    rintro e w1 ⟨rfl, rfl⟩
    cases t1 : withinB c.spine 0 2048 with
    | false =>
      have HT := Lib.hid t1
      clear t1
      go_wp2
      go_ret
      exact ⟨ret_i (check_one (by simp [tests]) HT.out), R.out.2.2⟩
    | true =>
      have HT1 := Lib.hid t1
      clear t1
      go_wp2_with fail
      refine (in_any c.globals 0 8 W).mono ?_
      rintro e w1 ⟨rfl, rfl⟩
      cases t2 : withinB c.globals 0 8 with
      | false =>
        have HT := Lib.hid t2
        clear t2
        go_wp2
        go_ret
        exact ⟨ret_i (check_one (by simp [tests]) HT.out), R.out.2.2⟩
      | true =>
        have HT2 := Lib.hid t2
        clear t2
        go_wp2_with fail
        refine (in_any c.threads 1 16 W).mono ?_
        rintro e w1 ⟨rfl, rfl⟩
        cases t3 : withinB c.threads 1 16 with
        | false =>
          have HT := Lib.hid t3
          clear t3
          go_wp2
          go_ret
          exact ⟨ret_i (check_one (by simp [tests]) HT.out), R.out.2.2⟩
        | true =>
          have HT3 := Lib.hid t3
          clear t3
          go_wp2_with fail
          refine (in_any c.locals 1 8 W).mono ?_
          rintro e w1 ⟨rfl, rfl⟩
          cases t4 : withinB c.locals 1 8 with
          | false =>
            have HT := Lib.hid t4
            clear t4
            go_wp2
            go_ret
            exact ⟨ret_i (check_one (by simp [tests]) HT.out), R.out.2.2⟩
          | true =>
            have HT4 := Lib.hid t4
            clear t4
            go_wp2_with fail
            refine (in_any c.cache 0 8 W).mono ?_
            rintro e w1 ⟨rfl, rfl⟩
            cases t5 : withinB c.cache 0 8 with
            | false =>
              have HT := Lib.hid t5
              clear t5
              go_wp2
              go_ret
              exact ⟨ret_i (check_one (by simp [tests]) HT.out), R.out.2.2⟩
            | true =>
              have HT5 := Lib.hid t5
              clear t5
              go_wp2_with fail
              refine (in_any c.stack 1 256 W).mono ?_
              rintro e w1 ⟨rfl, rfl⟩
              cases t6 : withinB c.stack 1 256 with
              | false =>
                have HT := Lib.hid t6
                clear t6
                go_wp2
                go_ret
                exact ⟨ret_i (check_one (by simp [tests]) HT.out), R.out.2.2⟩
              | true =>
                have HT6 := Lib.hid t6
                clear t6
                go_wp2_with fail
                refine (in_any c.low 0 c.frags W).mono ?_
                rintro e w1 ⟨rfl, rfl⟩
                cases t7 : withinB c.low 0 c.frags with
                | false =>
                  have HT := Lib.hid t7
                  clear t7
                  go_wp2
                  go_ret
                  exact ⟨ret_i (check_one (by simp [tests]) HT.out), R.out.2.2⟩
                | true =>
                  have HT7 := Lib.hid t7
                  clear t7
                  have hall : (tests c).all id = true := by
                    simp [tests, HT0.out, HT1.out, HT2.out, HT3.out, HT4.out, HT5.out, HT6.out, HT7.out]
                  have hb : 0 ≤ c.threads * c.cache ∧ c.threads * c.cache ≤ 128 := by
                    have h3 : withinB c.threads 1 16 = true := HT3.out
                    have h5 : withinB c.cache 0 8 = true := HT5.out
                    simp only [withinB, Bool.and_eq_true, decide_eq_true_eq] at h3 h5
                    refine ⟨Int.mul_nonneg (by omega) (by omega), Int.le_trans (Int.mul_le_mul_of_nonneg_right h3.2 h5.1) (by omega)⟩
                  have e1 : checkI c l = if c.frags < c.threads * c.cache then 1 else if (withinB l.length 1 8 && mayAll l) = false then 4 else 0 := by
                    rw [checkI, if_neg (by rw [hall]; simp)]
                  have E1 := Lib.hid e1
                  clear e1 hall
                  by_cases hf : c.frags < c.threads * c.cache
                  · have E2 := Lib.hid (E1.out.trans (if_pos hf))
                    go_wp2
                    go_ret
                    refine ⟨?_, R.out.2.2⟩
                    rw [E2.out]
                    rfl
                  · have E2 := Lib.hid (E1.out.trans (if_neg hf))
                    go_wp2_with fail
                    refine (in_any (l.length : Int) 1 8 _).mono ?_
                    rintro e w2 ⟨rfl, rfl⟩
                    clear hb hf c0 c1 c2 c3 c4 c5 c6 c7
                    cases hw : withinB (l.length : Int) 1 8 with
                    | false =>
                      have HW := Lib.hid hw
                      clear hw
                      go_wp2
                      go_ret
                      refine ⟨?_, R.out.2.2⟩
                      have e4 : checkI c l = 4 := by rw [E2.out, HW.out]; simp
                      rw [e4]
                      rfl
                    | true =>
                      have hl8 : l.length ≤ 8 := by
                        simp only [withinB, Bool.and_eq_true, decide_eq_true_eq] at hw
                        omega
                      have HW := Lib.hid hw
                      clear hw
                      go_wp2_with fail
                      go_loopw [3] (fun i wr => ∃ k : Nat, k ≤ l.length ∧ i = .int .i64 k ∧ (∀ j, j < k → ∀ s, l[j]? = some s → mayB s.a s.bs.length = true) ∧ Pure W wr) (fun i _ => l.length - (intOf i).toNat)
                      case atStart => exact ⟨0, Nat.zero_le _, rfl, (by omega), Only.refl _ _⟩
                      case round =>
                        obtain ⟨k, hk, rfl, hall, hp⟩ := hrel
                        have HALL := Lib.hid hall
                        have HP := Lib.hid (R.out.2.2.then hp)
                        have c8' := hp.keep c8
                        have HPW := Lib.hid hp
                        clear hall hp
                        by_cases hlt : k < l.length
                        · obtain ⟨b, off, hA, hb, hc⟩ := H3.out (by omega)
                          subst hA
                          obtain ⟨s, hs⟩ : ∃ s, l[k]? = some s := ⟨l[k], List.getElem?_eq_getElem hlt⟩
                          obtain ⟨d1, d2⟩ := hc k s hs
                          obtain ⟨B, d, hv, hd1, hd2, _⟩ := H4.out s (List.mem_of_getElem? hs)
                          rw [hv] at d2
                          rw [bools_length] at d2 hd1
                          have d1' := HP.out.keep d1
                          have d2' := HP.out.keep d2
                          have HS := Lib.hid hs
                          clear hc d1 d2 hv hs
                          cases hm : mayB s.a s.bs.length with
                          | false =>
                            have HM := Lib.hid hm
                            go_wp2_with fail
                            refine (mayref_any s.a B s.bs.length d _ (by omega)).mono ?_
                            rw [hm]
                            rintro e w1 ⟨rfl, hp1⟩
                            have P1 := Lib.hid (HP.out.then hp1)
                            clear hp1
                            go_wp2
                            go_ret
                            refine ⟨?_, P1.out⟩
                            have hno : mayAll l = false := by
                              simp only [mayAll, List.all_eq_false]
                              exact ⟨s, List.mem_of_getElem? HS.out, by rw [HM.out]; simp⟩
                            have e4 : checkI c l = 4 := by rw [E2.out, hno]; simp
                            rw [e4]
                            rfl
                          | true =>
                            have HM := Lib.hid hm
                            go_wp2_with fail
                            refine (mayref_any s.a B s.bs.length d _ (by omega)).mono ?_
                            rw [hm]
                            rintro e w1 ⟨rfl, hp1⟩
                            have P1 := Lib.hid (HPW.out.then hp1)
                            clear hp1
                            go_wp2
                            go_roundw
                            case rel =>
                              refine ⟨k + 1, by omega, by first | rfl | simp, ?_, P1.out⟩
                              intro j hj s' hs'
                              by_cases e : j < k
                              · exact HALL.out j e s' hs'
                              · obtain rfl : j = k := by omega
                                rw [HS.out] at hs'
                                cases hs'
                                exact HM.out
                            case measure => simp [intOf]; omega
                        · obtain rfl : k = l.length := by omega
                          go_wp2
                          go_ret
                          refine ⟨?_, HP.out⟩
                          have hyes : mayAll l = true := by
                            simp only [mayAll, List.all_eq_true]
                            intro s hs
                            obtain ⟨j, hj, e⟩ := List.mem_iff_getElem.1 hs
                            exact HALL.out j hj s (by rw [List.getElem?_eq_getElem hj, e])
                          have e4 : checkI c l = 0 := by rw [E2.out, hyes, HW.out]; simp
                          rw [e4]
                          rfl

end Go.Proofs.Ytdlcfgpmjhcgdaa
