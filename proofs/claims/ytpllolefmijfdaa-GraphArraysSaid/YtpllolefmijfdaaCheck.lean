/-
  The contract of conf.Check.
-/
import Derived.Test.YtpllolefmijfdaaConf
namespace Go.Proofs.Ytpllolefmijfdaa
open Go.RowKit

/-- The cells of a configuration in block X. -/
def CnAt (w : World) (X : Nat) (c : Cn) (v : Value) (w' : World) : Prop :=
  w'.cell? ⟨X, 0, none⟩ = some (.int .i64 c.frags) ∧ w'.cell? ⟨X, 1, none⟩ = some (.int .i64 c.spine) ∧ w'.cell? ⟨X, 2, none⟩ = some (.int .i64 c.globals) ∧ w'.cell? ⟨X, 3, none⟩ = some (.int .i64 c.threads) ∧
  w'.cell? ⟨X, 4, none⟩ = some (.int .i64 c.locals) ∧ w'.cell? ⟨X, 5, none⟩ = some (.int .i64 c.cache) ∧ w'.cell? ⟨X, 6, none⟩ = some (.int .i64 c.stack) ∧ w'.cell? ⟨X, 7, none⟩ = some (.int .i64 c.low) ∧ w'.cell? ⟨X, 8, none⟩ = some v ∧ Pure w w'
theorem CnAt.keep {w : World} {X : Nat} {c : Cn} {v : Value} (a b : World) (h : CnAt w X c v a) (k : Pure a b) : CnAt w X c v b := by
  obtain ⟨h0, h1, h2, h3, h4, h5, h6, h7, h8, h9⟩ := h
  exact ⟨k.keep h0, k.keep h1, k.keep h2, k.keep h3, k.keep h4, k.keep h5, k.keep h6, k.keep h7, k.keep h8, h9.then k⟩

set_option maxRecDepth 100000 in
theorem check_any (c : Cn) (v : Value) (l : List Sh) (w : World) (hl : ShsR w w.heap.size v l) :
    Calls Try.prog 20 #[cnV c v] w fun e w' => e = .returned (.int .i64 (checkI c l)) ∧ Pure w w' := by
  have HL := Lib.hid (fun (w' : World) (hp : Pure w w') => hl.pure hp)
  obtain ⟨⟨A, cc, rfl, h1, h2, h3⟩, h4⟩ := hl
  clear h3 h4
  go_enter Try.func20, Try.ntmps20
  go_wp2_with fail
  have hC : CnAt w w.heap.size c (.slice A l.length cc) (w.alloc (.cells #[.int .i64 c.frags, .int .i64 c.spine, .int .i64 c.globals, .int .i64 c.threads, .int .i64 c.locals, .int .i64 c.cache, .int .i64 c.stack, .int .i64 c.low, .slice A l.length cc] 25)) :=
    ⟨by simp, by simp, by simp, by simp, by simp, by simp, by simp, by simp, by simp, (Only.refl _ _).alloc _⟩
  generalize w.alloc (.cells #[.int .i64 c.frags, .int .i64 c.spine, .int .i64 c.globals, .int .i64 c.threads, .int .i64 c.locals, .int .i64 c.cache, .int .i64 c.stack, .int .i64 c.low, .slice A l.length cc] 25) = W at *
  generalize w.heap.size = X at *
  have HC := Lib.hid hC
  obtain ⟨k0, k1, k2, k3, k4, k5, k6, k7, k8, k9⟩ := hC
  clear k9
  go_region_held3 (fun w' => w'.cell? ⟨X, 0, none⟩ = some (.int .i64 c.frags) ∧ w'.cell? ⟨X, 1, none⟩ = some (.int .i64 c.spine) ∧ w'.cell? ⟨X, 2, none⟩ = some (.int .i64 c.globals) ∧ w'.cell? ⟨X, 3, none⟩ = some (.int .i64 c.threads) ∧
      w'.cell? ⟨X, 4, none⟩ = some (.int .i64 c.locals) ∧ w'.cell? ⟨X, 5, none⟩ = some (.int .i64 c.cache) ∧ w'.cell? ⟨X, 6, none⟩ = some (.int .i64 c.stack) ∧ w'.cell? ⟨X, 7, none⟩ = some (.int .i64 c.low) ∧ w'.cell? ⟨X, 8, none⟩ = some (.slice A l.length cc) ∧ Pure w w')
    ((first | assumption | exact CnAt.keep W W.drew HC.out ((Only.refl _ W).drewN 1) | exact CnAt.keep _ _ (by assumption) ((Only.refl _ _).alloc _)))
    (first | (go_at_call 36; refine (withS (by assumption) (CnAt.keep (X := X) (c := c)) (same_pure (within_any _ _ _ _))).mono ?_; rintro e w' ⟨rfl, hs⟩))
  have hT : ∀ j b, (tests c)[j]? = some b → (w'.alloc (.cells #[.bool (withinB c.frags 4 1024), .bool (withinB c.spine 0 2048), .bool (withinB c.globals 0 8), .bool (withinB c.threads 1 16), .bool (withinB c.locals 1 8), .bool (withinB c.cache 0 8), .bool (withinB c.stack 1 256), .bool (withinB c.low 0 c.frags)] 4)).cell? ⟨w'.heap.size, j, none⟩ = some (.bool b) := by
    intro j b hj
    have hlt : j < 8 := by
      rcases Nat.lt_or_ge j 8 with h | h
      · exact h
      · rw [List.getElem?_eq_none (by simpa [tests] using h)] at hj; simp at hj
    match j, hlt, hj with
    | 0, _, hj | 1, _, hj | 2, _, hj | 3, _, hj | 4, _, hj | 5, _, hj | 6, _, hj | 7, _, hj => simp [tests] at hj; subst hj; simp
  have hS1 := CnAt.keep _ _ hs ((Only.refl (fun _ => False) w').alloc (.cells #[.bool (withinB c.frags 4 1024), .bool (withinB c.spine 0 2048), .bool (withinB c.globals 0 8), .bool (withinB c.threads 1 16), .bool (withinB c.locals 1 8), .bool (withinB c.cache 0 8), .bool (withinB c.stack 1 256), .bool (withinB c.low 0 c.frags)] 4))
  generalize w'.alloc (.cells #[.bool (withinB c.frags 4 1024), .bool (withinB c.spine 0 2048), .bool (withinB c.globals 0 8), .bool (withinB c.threads 1 16), .bool (withinB c.locals 1 8), .bool (withinB c.cache 0 8), .bool (withinB c.stack 1 256), .bool (withinB c.low 0 c.frags)] 4) = W1 at hT hS1 ⊢
  generalize w'.heap.size = Y at hT ⊢
  have HT := Lib.hid hT
  have HS1 := Lib.hid hS1
  clear hT hS1 hs
  go_wp2_with fail
  go_loopw [33] (fun i wr => ∃ k : Nat, k ≤ 8 ∧ i = .int .i64 k ∧ (∀ j, j < k → ∀ b, (tests c)[j]? = some b → b = true) ∧ wr = W1) (fun i _ => 8 - (intOf i).toNat)
  case atStart => exact ⟨0, Nat.zero_le _, rfl, (by omega), rfl⟩
  case round =>
    obtain ⟨k, hk, rfl, hall, rfl⟩ := hrel
    have HALL := Lib.hid hall
    clear hall
    by_cases hlt : k < 8
    · obtain ⟨b, hb⟩ : ∃ b, (tests c)[k]? = some b := ⟨(tests c)[k]'(by simpa [tests] using hlt), List.getElem?_eq_getElem _⟩
      have hcl := HT.out k b hb
      have HB := Lib.hid hb
      clear hb
      cases b with
      | false =>
        go_wp2
        go_ret
        refine ⟨?_, HS1.out.2.2.2.2.2.2.2.2.2⟩
        have : (tests c).all id = false := by
          simp only [List.all_eq_false]
          exact ⟨false, List.mem_of_getElem? HB.out, by simp⟩
        rw [checkI, if_pos this]
        rfl
      | true =>
        go_wp2
        go_roundw
        case rel =>
          refine ⟨k + 1, by omega, by first | rfl | simp, ?_, by first | trivial | rfl⟩
          intro j hj b' hb'
          by_cases e : j < k
          · exact HALL.out j e b' hb'
          · obtain rfl : j = k := by omega
            rw [HB.out] at hb'
            cases hb'
            rfl
        case measure => simp [intOf]; omega
    · obtain rfl : k = 8 := by omega
      have hall : (tests c).all id = true := by
        simp only [List.all_eq_true]
        intro b hb
        obtain ⟨j, hj, e⟩ := List.mem_iff_getElem.1 hb
        exact HALL.out j (by simpa [tests] using hj) b (by rw [List.getElem?_eq_getElem hj, e])
      have hb : 0 ≤ c.threads * c.cache ∧ c.threads * c.cache ≤ 128 := by
        have h3 : withinB c.threads 1 16 = true := HALL.out 3 (by omega) (withinB c.threads 1 16) rfl
        have h5 : withinB c.cache 0 8 = true := HALL.out 5 (by omega) (withinB c.cache 0 8) rfl
        simp only [withinB, Bool.and_eq_true, decide_eq_true_eq] at h3 h5
        refine ⟨Int.mul_nonneg (by omega) (by omega), Int.le_trans (Int.mul_le_mul_of_nonneg_right h3.2 h5.1) (by omega)⟩
      obtain ⟨k0, k1, k2, k3, k4, k5, k6, k7, k8, k9⟩ := HS1.out
      have HA := Lib.hid hall
      clear k1 k2 k4 k6 k7 k9 hall
      have e1 : checkI c l = if c.frags < c.threads * c.cache then 1 else if (withinB l.length 1 8 && mayAll l) = false then 4 else 0 := by
        rw [checkI, if_neg (by rw [HA.out]; simp)]
      have E1 := Lib.hid e1
      clear e1
      by_cases hf : c.frags < c.threads * c.cache
      · have E2 := Lib.hid (E1.out.trans (if_pos hf))
        go_wp2
        go_ret
        refine ⟨?_, HS1.out.2.2.2.2.2.2.2.2.2⟩
        rw [E2.out]
        rfl
      · have E2 := Lib.hid (E1.out.trans (if_neg hf))
        go_wp2_with fail
        refine (within_any (l.length : Int) 1 8 _).mono ?_
        rintro e w2 ⟨rfl, rfl⟩
        cases hw : withinB (l.length : Int) 1 8 with
        | false =>
          have HW := Lib.hid hw
          clear hw
          go_wp2
          go_ret
          refine ⟨?_, HS1.out.2.2.2.2.2.2.2.2.2⟩
          have e4 : checkI c l = 4 := by rw [E2.out, HW.out]; simp
          rw [e4]
          rfl
        | true =>
          have HW := Lib.hid hw
          clear hw
          go_wp2_with fail
          refine (contains_any _ l _ (HL.out _ HS1.out.2.2.2.2.2.2.2.2.2)).mono ?_
          rintro e w3 ⟨rfl, hp3⟩
          have P3 := Lib.hid (HS1.out.2.2.2.2.2.2.2.2.2.then hp3)
          clear hp3
          cases hm : mayAll l with
          | false =>
            have HM := Lib.hid hm
            clear hm
            go_wp2
            go_ret
            refine ⟨?_, P3.out⟩
            have e4 : checkI c l = 4 := by rw [E2.out, HM.out]; simp
            rw [e4]
            rfl
          | true =>
            have HM := Lib.hid hm
            clear hm
            go_wp2
            go_ret
            refine ⟨?_, P3.out⟩
            have e4 : checkI c l = 0 := by rw [E2.out, HM.out, HW.out]; simp
            rw [e4]
            rfl

end Go.Proofs.Ytpllolefmijfdaa
