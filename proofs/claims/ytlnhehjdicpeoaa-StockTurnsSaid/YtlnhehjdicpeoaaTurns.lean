/-
  StockTurns: put and taken in turn, in parts of any size, numbers come out as they went in. For every input.
-/
import Derived.Test.YtlnhehjdicpeoaaBounds
import Derived.Test.YtlnhehjdicpeoaaSides
import Derived.Laws.BitsAllLaws
import Derived.Laws.BitsLemmas
namespace Go.Proofs.Ytlnhehjdicpeoaa.stockTurns
open Go.RowKit Go.ChangeShapes Go.WideShapes Go.ChangeAt
open Go.Proofs.Ytlnhehjdicpeoaa.stockSides (run run_len run_succ run_get)

/-! ### Plain -/
theorem and7 (x : Int) : bits .and .i64 x 7 = x % 8 := by
  show IntKind.i64.wrap ((BitVec.ofInt 64 x &&& BitVec.ofInt 64 7).toNat : Int) = _
  have e7 : (BitVec.ofInt 64 7).toNat = 2 ^ 3 - 1 := by decide
  rw [BitVec.toNat_and, e7, Nat.and_two_pow_sub_one_eq_mod, BitVec.toNat_ofInt, IntKind.wrap_i64]
  omega
theorem run_drop (a : Int) (n k : Nat) (h : k ≤ n) : (run a n).drop k = run (a + k) (n - k) := by
  apply List.ext_getElem?
  intro i
  rw [List.getElem?_drop]
  by_cases hi : i < n - k
  · have h1 : k + i < n := by omega
    simp [run, h1, hi]; omega
  · have h1 : ¬ k + i < n := by omega
    simp [run, h1, hi]
theorem run_take (a : Int) (n k : Nat) (h : k ≤ n) : (run a n).take k = run a k := by
  apply List.ext_getElem?
  intro i
  rw [List.getElem?_take]
  by_cases hi : i < k
  · have h1 : i < n := by omega
    simp [run, h1, hi]
  · simp [run, hi]
theorem run_app (a : Int) (n m : Nat) : run a n ++ run (a + n) m = run a (n + m) := by
  induction m with
  | zero => simp [run]
  | succ m ih =>
    rw [run_succ, ← List.append_assoc, ih, ← Nat.add_assoc, run_succ]
    congr 2
    omega
theorem run_rng (a : Int) (n : Nat) (h0 : 0 ≤ a) (h1 : a ≤ 100000) (hn : n ≤ 100000) : ∀ x ∈ run a n, -9223372036854775808 ≤ x ∧ x ≤ 9223372036854775807 := by
  intro x hx
  simp only [run, List.mem_map, List.mem_range] at hx
  obtain ⟨i, hi, rfl⟩ := hx
  omega

theorem out1 (most : Int) (v : Value) (w : World) (h : most < 0 ∨ 8 < most) :
    Calls Try.prog 4 #[.int .i64 most, v] w fun e w' => e = .returned (.bool true) ∧ Pure w w' := by
  go_enter Try.func4, Try.ntmps4
  go_wp2_with fail
  refine (first_any _).mono ?_
  rintro e w1 ⟨rfl, hp1⟩
  have P1 := Lib.hid hp1
  clear hp1
  go_wp2_with fail
  refine (new_no most w1 h).mono ?_
  rintro e w2 ⟨rfl, rfl⟩
  go_wp2_with fail
  refine (first_any _).mono ?_
  rintro e w2 ⟨rfl, hp2⟩
  have P2 := Lib.hid hp2
  clear hp2
  go_wp2
  go_ret
  exact ⟨rfl, P1.out.then P2.out⟩

theorem out2 (most : Int) (v : Value) (xs : List Int) (w : World) (hs : SlI w w.heap.size v xs) (h0 : 0 ≤ most) (h8 : most ≤ 8) (h : most < 1 ∨ 200 < xs.length) :
    Calls Try.prog 4 #[.int .i64 most, v] w fun e w' => e = .returned (.bool true) ∧ Pure w w' := by
  obtain ⟨A, c, rfl, hlc, hm⟩ := hs.len
  clear hs
  have go : ∀ (H : (most < 1) ∨ (¬ most < 1 ∧ 200 < xs.length)), Calls Try.prog 4 #[.int .i64 most, .slice A xs.length c] w fun e w' => e = .returned (.bool true) ∧ Pure w w' := by
    intro H
    clear h
    rcases H with h1 | ⟨h1, h2⟩
    all_goals
      go_enter Try.func4, Try.ntmps4
      go_wp2_with fail
      refine (first_any _).mono ?_
      rintro e w1 ⟨rfl, hp1⟩
      have P1 := Lib.hid hp1
      clear hp1
      go_wp2_with fail
      refine (new_ok most w1 h0 h8).mono ?_
      rintro e w2 ⟨rfl, rfl⟩
      go_wp2_with fail
      refine (first_any _).mono ?_
      rintro e w2 ⟨rfl, hp2⟩
      have P2 := Lib.hid hp2
      clear hp2
      go_wp2
      go_ret
      exact ⟨rfl, Pure.then (P1.out.alloc _) P2.out⟩
  exact go (by omega)

set_option maxRecDepth 100000 in
set_option maxHeartbeats 1000000 in
theorem main (most : Int) (v : Value) (xs : List Int) (w : World) (hs : SlI w w.heap.size v xs) (h1 : 1 ≤ most) (h8 : most ≤ 8) (hl : xs.length ≤ 200) :
    Calls Try.prog 4 #[.int .i64 most, v] w fun e w' => e = .returned (.bool true) ∧ Pure w w' := by
  obtain ⟨i0, hi0, hz0, hz1, hz2⟩ := info_parts int_info
  obtain ⟨A, c, e, hlc, hcm, hrng, hcells⟩ := hs
  subst e
  have HR := Lib.hid hrng
  have HC := Lib.hid hcells
  clear hrng hcells
  go_enter Try.func4, Try.ntmps4
  go_wp2_with fail
  refine (first_any _).mono ?_
  rintro e w1 ⟨rfl, hp1⟩
  have P1 := Lib.hid hp1
  clear hp1
  go_wp2_with fail
  refine (new_ok most w1 (by omega) h8).mono ?_
  rintro e w2 ⟨rfl, rfl⟩
  have k2 := stk_new w1 most (by omega) h8
  have o2 : Pure w (w1.alloc (.cells #[.slice none 0 0, .int .i64 most] 46)) := P1.out.alloc _
  have hB' : w.heap.size ≤ w1.heap.size := P1.out.size
  generalize w1.alloc (.cells #[.slice none 0 0, .int .i64 most] 46) = W2 at *
  generalize w1.heap.size = B at *
  have K2 := Lib.hid k2; have O2 := Lib.hid o2
  clear k2 o2
  go_wp2_with fail
  go_loopw [7, 8, 9] (fun a b i wr => ∃ (k I O : Nat) (vS : Value), k ≤ xs.length ∧ i = .int .i64 k ∧ a = .int .i64 I ∧ b = .int .i64 O ∧ O ≤ I ∧ I ≤ 8 * k ∧ StkOf wr B most vS (run O (I - O)) ∧ Pure w wr ∧ (∀ i, vS.ownBlock = some i → w.heap.size ≤ i)) (fun _ _ i _ => xs.length - (intOf i).toNat)
  case atStart => exact ⟨0, 0, 0, _, Nat.zero_le _, rfl, rfl, rfl, Nat.le_refl _, Nat.le_refl _, K2.out, O2.out, fun i e => by simp [Value.ownBlock] at e⟩
  case round =>
    obtain ⟨k, I, O, vS, hk, rfl, rfl, rfl, hOI, hI8, hS, hP, hvS⟩ := hrel
    have HVS := Lib.hid hvS
    clear hvS
    have HS := Lib.hid hS
    have HP := Lib.hid hP
    have hcnt : ((I - O : Nat) : Int) ≤ most := by have := hS.le; rw [run_len] at this; exact this
    clear hS hP
    by_cases hlt : k < xs.length
    · obtain ⟨b, off, hA, hb, hc⟩ := HC.out (by omega)
      subst hA
      have cx := hc k hlt
      have cx' : wr.cell? ⟨b, off + k, none⟩ = some (.int .i64 (xs.getD k 0)) := (HP.out.cell (p := ⟨b, off + k, none⟩) hb (fun f => f)).trans cx
      have hand := and7 (xs.getD k 0)
      generalize xs.getD k 0 = x at *
      have hx0 := Int.emod_nonneg x (b := 8) (by decide)
      have hx1 := Int.emod_lt_of_pos x (b := 8) (by decide)
      obtain ⟨m, hm⟩ := Int.eq_ofNat_of_zero_le hx0
      rw [hm] at hand hx0 hx1
      clear cx hc hm
      go_wp2_with fail
      obtain ⟨AS, cS, rfl, hlS⟩ := HS.out.form
      rw [run_len] at HS HVS
      have hkS := HS.out.at_
      have hlS' : I - O ≤ 9223372036854775807 := by omega
      have HKS := Lib.hid hkS
      clear hkS cx'
      obtain ⟨wo, hwo⟩ : ∃ wo : World, wo = wr := ⟨_, rfl⟩
      subst hwo
      go_loopw [11, 12] (fun mo q wr2 => ∃ (j : Nat), j ≤ m ∧ (j : Int) ≤ most - ((I - O : Nat) : Int) ∧ q = .int .i64 j ∧ wr2.ownsRow wo.heap.size 3 1 mo j (ints (run I j)) ∧ Pure wo wr2) (fun _ q _ => m - (intOf q).toNat)
      case atStart => exact ⟨0, Nat.zero_le _, by omega, rfl, World.ownsRow_nil _ _ _ _, Only.refl _ _⟩
      case round =>
        obtain ⟨j, hjm, hjr, rfl, hown, hP2⟩ := hrel
        obtain ⟨AM, cM, rfl⟩ := own_form hown
        have OWN := Lib.hid hown
        have hk2 := HKS.out.only hP2 (fun f => f)
        have hsz : wo.heap.size ≤ (wr.alloc (.cells #[.int .i64 (I + j)] 3)).heap.size := Nat.le_trans hP2.size (by simp)
        have HP2 := Lib.hid hP2
        clear hown hP2
        have hcase : (j < m ∧ (j : Int) < most - ((I - O : Nat) : Int)) ∨ (¬ j < m) ∨ (j < m ∧ ¬ (j : Int) < most - ((I - O : Nat) : Int)) := by omega
        rcases hcase with ⟨hc1, hc2⟩ | hc1 | ⟨hc1, hc2⟩
        · go_wp2_with fail
          refine (room_any B AS _ cS most wr hk2 hlS' (by omega) h8).mono ?_
          rintro e W4 ⟨rfl, d4, rfl⟩
          go_wp2_with (at_builtin; refine wpList_app _ rfl (.tmp 62) (.tmp 66) _ rfl wo.heap.size 3 i0 _ 1 8 Try.underlying23 hi0 hz0 hz1 hz2 rfl (by omega) (.slice AM j cM) j (ints (run I j)) rfl (World.ownsRow.alloc (w := wr.drewN d4) OWN.out _) _ 1 1 (ints [(I : Int) + j]) rfl (Src.one (wr.drewN d4) _ _ _ rfl) (ints_one _) (by simp only [maxLen]; omega) (by omega) hsz ?_; intro v1 w1 hown1 hg1 hat1; obtain ⟨A1, c1, rfl⟩ := own_form hown1; have OWN1 := Lib.hid hown1; have G1 := Lib.hid hg1; clear hown1 hg1 hat1)
          go_roundw
          case rel => exact ⟨j + 1, by omega, by omega, by go_num, by rw [run_succ, ints_append]; exact OWN1.out, ((HP2.out.drewN d4).alloc _).grown G1.out (fun i hi e => by have := (OWN.out.lt i e).1; omega)⟩
          case measure => simp [intOf]; omega
        case' inr.inl => go_wp2_with fail
        case' inr.inr =>
          go_wp2_with fail
          refine (room_any B AS _ cS most wr hk2 hlS' (by omega) h8).mono ?_
          rintro e W4 ⟨rfl, d4, rfl⟩
          go_wp2_with fail
        all_goals
          refine (put_ok B most _ _ (run O (I - O)) (run I j) _ (by first | exact HS.out.only HP2.out (fun _ _ f => f) | exact HS.out.only (HP2.out.drewN d4) (fun _ _ f => f)) (SlI.of_own (by first | exact OWN.out | exact (OWN.out : (wr.drewN d4).ownsRow _ _ _ _ _ _)) (run_rng I j (by omega) (by omega) (by omega))) (by rw [run_len, run_len]; omega)).mono ?_
          rintro e W5 ⟨v5, rfl, k5, o5, hat5⟩
          have hcat : run O (I - O) ++ run I j = run O (I + j - O) := by
            have h := run_app O (I - O) j
            rw [show ((O : Int) + (I - O : Nat)) = (I : Int) from by omega] at h
            rw [h]
            congr 1
            omega
          rw [hcat] at k5
          have K5 := Lib.hid k5
          have opre : Pure w _ := (show Pure w _ from by first | exact HP.out.then (HP2.out.drewN d4) | exact HP.out.then HP2.out)
          have o5' : Pure w W5 := opre.trans o5 (fun i hi e => by
            rcases e with e | e
            · omega
            · have := HVS.out i e; omega)
          have hv5 : ∀ i, v5.ownBlock = some i → w.heap.size ≤ i := by
            intro i e
            rcases hat5 with h | ⟨q, h, hq⟩
            · exact HVS.out i (by rw [← h]; exact e)
            · have : q = i := by rw [h] at e; injection e
              have := opre.size
              omega
          have O5 := Lib.hid o5'
          have HV5 := Lib.hid hv5
          clear k5 o5 o5' hcat hv5 opre hat5
          have hct : (I : Int) + j - O ≤ 8 := by omega
          have hcase2 : ((m : Int) / 2 + 1 ≤ (I : Int) + j - O) ∨ (¬ (m : Int) / 2 + 1 ≤ (I : Int) + j - O ∧ 1 ≤ (I : Int) + j - O) ∨ ((I : Int) + j - O = 0) := by omega
          rcases hcase2 with hq0 | ⟨hq0, hq1⟩ | hq0
          · obtain ⟨q, hq⟩ := Int.eq_ofNat_of_zero_le (show 0 ≤ (m : Int) / 2 + 1 by omega)
            have hq1 : 1 ≤ (q : Int) := by omega
            have hq2 : (q : Int) ≤ (I : Int) + j - O := by omega
            rw [hq] at hq0
            go_wp2_with fail
            all_goals
              refine (take_okI B most q _ (run O (I + j - O)) W5 K5.out hq1 (by rw [run_len]; omega)).mono ?_
              rintro e W6 ⟨v6, v7, rfl, k6, hown6, o6, hne6⟩
              simp only [Int.toNat_natCast] at k6 hown6
              rw [run_drop _ _ _ (by omega)] at k6
              rw [run_take _ _ _ (by omega)] at hown6
              have o6' : Pure w W6 := O5.out.trans o6 (fun i hi e => by omega)
              have hv7 : ∀ i, v7.ownBlock = some i → w.heap.size ≤ i := fun i e => Nat.le_trans O5.out.size (hne6 i e).1
              have hs6 := SlI.of_own hown6 (run_rng O _ (by omega) (by omega) (by omega))
              obtain ⟨A6, c6, e6, hl6, hb6, hc6⟩ := hs6
              rw [run_len] at e6 hl6 hc6
              subst e6
              have K6 := Lib.hid k6; have O6 := Lib.hid o6'; have HV7 := Lib.hid hv7; have HC6 := Lib.hid hc6.2
              clear k6 o6' hv7 hc6 hown6 o6 hne6 hb6
              go_wp2_with fail
              go_loopw [8, 16] (fun o q2 wr3 => ∃ t : Nat, t ≤ q ∧ o = .int .i64 ((O + t : Nat) : Int) ∧ q2 = .int .i64 t ∧ wr3 = W6) (fun _ q2 _ => q - (intOf q2).toNat)
              case atStart => exact ⟨0, Nat.zero_le _, by simp, by simp, by simp⟩
              case round =>
                obtain ⟨t, ht, rfl, rfl, rfl⟩ := hrel
                by_cases htq : t < q
                · obtain ⟨b6, off6, e6, hb6, hc6⟩ := HC6.out (by omega)
                  subst e6
                  have c6t := hc6 t htq
                  rw [run_get _ _ _ htq] at c6t
                  have hcast : ((O + t : Nat) : Int) = (O : Int) + t := by omega
                  clear hc6
                  go_wp2
                  go_roundw
                  case rel => exact ⟨t + 1, htq, by go_num, by go_num, by first | trivial | rfl⟩
                  case measure => simp [intOf]; omega
                · obtain rfl : t = q := by omega
                  go_wp2_with fail
                  go_roundw
                  case rel =>
                    have e1 : run ((O : Int) + t) (I + j - O - t) = run ((O + t : Nat) : Int) (I + j - (O + t)) := by
                      congr 1
                      omega
                    exact ⟨k + 1, I + j, O + t, v7, by omega, by go_num, by go_num, rfl, by omega, by omega, by rw [← e1]; exact K6.out, O6.out, HV7.out⟩
                  case measure => simp [intOf]; omega
          · obtain ⟨q, hq⟩ := Int.eq_ofNat_of_zero_le (show 0 ≤ (I : Int) + j - O by omega)
            have hq2 : (q : Int) ≤ (I : Int) + j - O := by omega
            rw [hq] at hq0 hq1
            go_wp2_with fail
            all_goals
              refine (take_okI B most q _ (run O (I + j - O)) W5 K5.out hq1 (by rw [run_len]; omega)).mono ?_
              rintro e W6 ⟨v6, v7, rfl, k6, hown6, o6, hne6⟩
              simp only [Int.toNat_natCast] at k6 hown6
              rw [run_drop _ _ _ (by omega)] at k6
              rw [run_take _ _ _ (by omega)] at hown6
              have o6' : Pure w W6 := O5.out.trans o6 (fun i hi e => by omega)
              have hv7 : ∀ i, v7.ownBlock = some i → w.heap.size ≤ i := fun i e => Nat.le_trans O5.out.size (hne6 i e).1
              have hs6 := SlI.of_own hown6 (run_rng O _ (by omega) (by omega) (by omega))
              obtain ⟨A6, c6, e6, hl6, hb6, hc6⟩ := hs6
              rw [run_len] at e6 hl6 hc6
              subst e6
              have K6 := Lib.hid k6; have O6 := Lib.hid o6'; have HV7 := Lib.hid hv7; have HC6 := Lib.hid hc6.2
              clear k6 o6' hv7 hc6 hown6 o6 hne6 hb6
              go_wp2_with fail
              go_loopw [8, 16] (fun o q2 wr3 => ∃ t : Nat, t ≤ q ∧ o = .int .i64 ((O + t : Nat) : Int) ∧ q2 = .int .i64 t ∧ wr3 = W6) (fun _ q2 _ => q - (intOf q2).toNat)
              case atStart => exact ⟨0, Nat.zero_le _, by simp, by simp, by simp⟩
              case round =>
                obtain ⟨t, ht, rfl, rfl, rfl⟩ := hrel
                by_cases htq : t < q
                · obtain ⟨b6, off6, e6, hb6, hc6⟩ := HC6.out (by omega)
                  subst e6
                  have c6t := hc6 t htq
                  rw [run_get _ _ _ htq] at c6t
                  have hcast : ((O + t : Nat) : Int) = (O : Int) + t := by omega
                  clear hc6
                  go_wp2
                  go_roundw
                  case rel => exact ⟨t + 1, htq, by go_num, by go_num, by first | trivial | rfl⟩
                  case measure => simp [intOf]; omega
                · obtain rfl : t = q := by omega
                  go_wp2_with fail
                  go_roundw
                  case rel =>
                    have e1 : run ((O : Int) + t) (I + j - O - t) = run ((O + t : Nat) : Int) (I + j - (O + t)) := by
                      congr 1
                      omega
                    exact ⟨k + 1, I + j, O + t, v7, by omega, by go_num, by go_num, rfl, by omega, by omega, by rw [← e1]; exact K6.out, O6.out, HV7.out⟩
                  case measure => simp [intOf]; omega
          · go_wp2_with fail
            all_goals
              refine (take_no B most 0 _ (run O (I + j - O)) W5 K5.out (by simp)).mono ?_
              rintro e W6 ⟨rfl, rfl⟩
              go_wp2_with fail
              go_loopw [8, 16] (fun o q2 wr3 => o = .int .i64 (O : Int) ∧ q2 = .int .i64 0 ∧ wr3 = W5) (fun _ _ _ => 0)
              case atStart => simp
              case round =>
                obtain ⟨rfl, rfl, rfl⟩ := hrel
                go_wp2_with fail
                go_roundw
                case rel => exact ⟨k + 1, I + j, O, v5, by omega, by go_num, by go_num, rfl, by omega, by omega, K5.out, O5.out, HV5.out⟩
                case measure => simp [intOf]; omega
    · obtain rfl : k = xs.length := by omega
      go_wp2_with fail
      refine (first_any _).mono ?_
      rintro e W8 ⟨rfl, hp8⟩
      have h8' := HS.out.only hp8 (fun _ _ f => f)
      obtain ⟨AS, cS, e, hlS⟩ := h8'.form
      subst e
      have hk8 := h8'.at_
      rw [run_len] at hk8
      have hcast : ((I - O : Nat) : Int) = (I : Int) - O := by omega
      have HP8 := Lib.hid hp8
      clear hp8 h8'
      go_wp2_with fail
      refine (len_any B AS _ cS most W8 hk8).mono ?_
      rintro e W9 ⟨rfl, rfl⟩
      rw [hcast]
      go_wp2
      go_ret
      exact ⟨rfl, HP.out.then HP8.out⟩

theorem walk (w : World) (most : Int) (hb : -9223372036854775808 ≤ most ∧ most ≤ 9223372036854775807) (v : Value) (xs : List Int) (hs : SlI w w.heap.size v xs) :
    Calls Try.prog 4 #[.int .i64 most, v] w fun e w' => e = .returned (.bool true) ∧ Pure w w' := by
  by_cases h0 : most < 0 ∨ 8 < most
  · exact out1 most v w h0
  · by_cases hl : most < 1 ∨ 200 < xs.length
    · exact out2 most v xs w hs (by omega) (by omega) hl
    · exact main most v xs w hs (by omega) (by omega) (by omega)

set_option maxRecDepth 100000 in
theorem lifted (os : Os) (started : os.Started) (H : Type) (enc : TypeId × Value → H) :
    ReturnsInHanded {} Try.checked os 4 .any (Rows.stockTurnsSpec.pre6 enc Try.prog Try.f4 Rows.stockTurnsRow.domain false) (Rows.stockTurnsSpec.post enc Try.prog Try.f4 false true false false) :=
  lift_law (C := Try.checked) own started (by kernel_rfl) Try.func4 laidOut (by kernel_rfl) rfl rfl Try.underlying4
    (fun ds h => by match ds, h with | [_, _], _ => rfl)
    (ChangeSpec.witness6 (enc := enc) (C := Try.checked) false ⟨#[], #[.int .i64 0, .slice none 0 0], []⟩ 8 (by kernel_rfl) (by kernel_rfl) (by kernel_rfl) (by kernel_rfl))
    (fun W base args ds ps hval hA hlt => by
      have hA' : DataW.TrodAll enc Try.prog W 0 (fun _ => true) true Try.f4.params.toList args.toList ds ps := hA
      rw [Try.params4] at hA'
      have hval' : ∀ (j : Nat) t v, Try.f4.params[j]? = some t → args[j]? = some v → Value.okWide Try.prog W .any base t v := hval
      rw [Try.params4] at hval'
      obtain ⟨v0, vs0, d0, ds0, p0, q0, hargs, rfl, rfl, h0, r0⟩ := trodAll_cons hA'
      obtain ⟨v1, vs1, d1, ds1, p1, q1, rfl, rfl, rfl, h1, r1⟩ := trodAll_cons r0
      obtain ⟨rfl, rfl, rfl⟩ := trodAll_nil r1
      obtain rfl : args = #[v0, v1] := by cases args; simp_all
      obtain ⟨a0, rfl, rfl, rfl, w0⟩ := open_int Try.underlying3 (hval' 0 3 v0 rfl rfl) h0
      obtain ⟨xs1, s1⟩ := open_sl Try.underlying23 Try.underlying3 (by kernel_rfl) (hval' 1 23 v1 rfl rfl) h1
      exact (walk W a0 (int_bounds w0) _ xs1 s1).mono fun e W' ⟨he, hp⟩ => ⟨he, hp.below⟩)

/-- The statement. -/
theorem proved : Rows.StockTurnsSaid :=
  OpenClaim.holds_of_wide 4 Try.f4 rfl rfl rfl rfl rfl rfl rfl ⟨rfl, rfl, rfl, rfl, rfl⟩ rfl rfl rfl rfl rfl (by kernel_rfl) Try.func4 (by kernel_rfl)
    (of_decide_eq_true (by kernel_rfl)) (by unfold Func.isWrapper; first | (rw [if_pos (by decide +kernel)]; kernel_rfl) | (rw [if_neg (by decide +kernel)]; exact ⟨rfl, rfl⟩))
    (fun os started H enc _ => lifted os started H enc)
#print axioms proved

end Go.Proofs.Ytlnhehjdicpeoaa.stockTurns
