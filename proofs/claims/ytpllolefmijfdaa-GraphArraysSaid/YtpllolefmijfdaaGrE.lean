/-
  The contracts of (*Graph).Live and of one.
-/
import Derived.Test.YtpllolefmijfdaaGrD
namespace Go.Proofs.Ytpllolefmijfdaa
open Go.RowKit

def szI (st : GS) (i : Nat) : Int := match st.th[i]? with
  | some t => sizeI t.a t.rs.length t.n
  | none => 0
def spI (st : GS) (i : Nat) : Int := match st.th[i]? with
  | some t => spineI t.a t.rs.length t.n
  | none => 0
def sumI (f : Nat → Int) (l : List Nat) : Int := (l.map f).sum
theorem sumI_snoc (f : Nat → Int) (l : List Nat) (k i : Nat) (h : l[k]? = some i) : sumI f (l.take (k + 1)) = sumI f (l.take k) + f i := by
  simp [sumI, List.take_add_one, h]
theorem sumI_bound (f : Nat → Int) (hf : ∀ i, 0 ≤ f i ∧ f i ≤ 1000000) : ∀ l : List Nat, 0 ≤ sumI f l ∧ sumI f l ≤ 1000000 * (l.length : Int)
  | [] => by simp [sumI]
  | i :: l => by
    have h1 := hf i
    have h2 := sumI_bound f hf l
    have e : sumI f (i :: l) = f i + sumI f l := rfl
    rw [e, List.length_cons]
    omega
/-- The sizes are not too large. -/
def SzOk (st : GS) : Prop := (∀ i, 0 ≤ szI st i ∧ szI st i ≤ 1000000) ∧ (∀ i, 0 ≤ spI st i ∧ spI st i ≤ 1000000)

set_option maxRecDepth 100000 in
set_option maxHeartbeats 4000000 in
theorem live_any {w : World} {κ : Nat → Option Cl} {G : Nat} {st : GS} {y : Ly} (h : GRL w κ G st y) (hw : WellF st) (hgl : st.glo.length ≤ 1000000) (hz : SzOk st) :
    Calls Try.prog 12 #[.pointer (some ⟨G, 0, none⟩)] w fun e w' => e = .returned (.tuple #[.int .i64 (sumI (szI st) (reachL st)), .int .i64 (sumI (spI st) (reachL st))]) ∧ Pure w w' := by
  have H := Lib.hid h
  have HW := Lib.hid hw
  have HZ := Lib.hid hz
  clear h hw hz
  go_enter Try.func12, Try.ntmps12
  go_wp2_with fail
  refine (reach_any H.out HW.out hgl).mono ?_
  rintro e w1 ⟨v, rfl, hp, hown⟩
  obtain ⟨A, c, rfl⟩ := own_form hown
  have P1 := Lib.hid hp
  have OWN := Lib.hid hown
  have hrl : (reachL st).length ≤ 100000 := by
    have h1 : (reachL st).length ≤ (List.range st.th.length).length := List.length_filter_le _ _
    have h2 := HW.out.len
    simp at h1; omega
  have HM := Lib.hid (fun i (h : i ∈ reachL st) => reachL_mem h)
  clear hp hown
  go_wp2_with fail
  obtain ⟨rl, hrl0⟩ : ∃ rl, reachL st = rl := ⟨_, rfl⟩
  rw [hrl0] at OWN HM hrl ⊢
  have HRL := Lib.hid hrl0
  clear hrl0
  go_loopw [4, 5, 13] (fun a b i wr => ∃ k : Nat, k ≤ rl.length ∧ i = .int .i64 k ∧ a = .int .i64 (sumI (szI st) (rl.take k)) ∧ b = .int .i64 (sumI (spI st) (rl.take k)) ∧ Pure w1 wr) (fun _ _ i _ => rl.length - (intOf i).toNat)
  case atStart => exact ⟨0, Nat.zero_le _, rfl, rfl, rfl, Only.refl _ _⟩
  case round =>
    obtain ⟨k, hk, rfl, rfl, rfl, hp⟩ := hrel
    have HP := Lib.hid hp
    clear hp
    by_cases hlt : k < rl.length
    · obtain ⟨i, hi⟩ : ∃ i, rl[k]? = some i := ⟨_, List.getElem?_eq_getElem hlt⟩
      have hin := HM.out i (List.mem_of_getElem? hi)
      obtain ⟨t, ht⟩ : ∃ t, st.th[i]? = some t := ⟨_, List.getElem?_eq_getElem hin⟩
      obtain ⟨g, cap, e, -⟩ := OWN.out.form (by omega)
      injection e with e1 e2 e3
      subst e1
      have c1 : wr.cell? ⟨g, k, none⟩ = some (.int .i64 (i : Int)) := Pure.keep HP.out (by rw [OWN.out.cellAt _ (by omega)]; simp [nis, ints, hi])
      have hs1 : sizeI t.a t.rs.length t.n = szI st i := by simp [szI, ht]
      have hs2 : spineI t.a t.rs.length t.n = spI st i := by simp [spI, ht]
      have b1 := HZ.out.1 i
      have b2 := HZ.out.2 i
      have b3 := sumI_bound (szI st) HZ.out.1 (rl.take k)
      have b4 := sumI_bound (spI st) HZ.out.2 (rl.take k)
      have hkl : (rl.take k).length ≤ 100000 := by simp; omega
      have S1 := Lib.hid (sumI_snoc (szI st) rl k i hi)
      have S2 := Lib.hid (sumI_snoc (spI st) rl k i hi)
      have HC := Lib.hid (size_of (H.out.pure (P1.out.then HP.out)) i t ht (by have := HW.out.len; omega) (HW.out.rsl i t ht))
      rw [hs1, hs2] at HC
      clear hi ht hs1 hs2 hin
      generalize szI st i = z1 at *
      generalize spI st i = z2 at *
      generalize hq1 : sumI (szI st) (rl.take k) = q1 at *
      generalize hq2 : sumI (spI st) (rl.take k) = q2 at *
      generalize (rl.take k).length = lk at *
      clear e2 e3 hq1 hq2
      go_wp2_with fail
      refine HC.out.mono ?_
      rintro e w2 ⟨rfl, hp2⟩
      have P2 := Lib.hid hp2
      clear hp2
      go_wp2_with fail
      go_roundw
      case rel => exact ⟨k + 1, by omega, by go_num, by rw [S1.out], by rw [S2.out], HP.out.then P2.out⟩
      case measure => simp [intOf]; omega
    · obtain rfl : k = rl.length := by omega
      rw [List.take_length]
      go_wp2_with fail
      exact bodyPost_ret (v := .tuple #[.int .i64 (sumI (szI st) rl), .int .i64 (sumI (spI st) rl)]) (by simp [results, Try.results12, go_sem]) rfl ⟨by rw [HRL.out], P1.out.then HP.out⟩

end Go.Proofs.Ytpllolefmijfdaa
