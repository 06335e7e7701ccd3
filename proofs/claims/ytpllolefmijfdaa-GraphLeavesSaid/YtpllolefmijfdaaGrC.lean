/-
  What is reached in the plain graph: as a set, and as the working list finds it. No function of the program is walked here.
-/
import Derived.Test.YtpllolefmijfdaaGrA
namespace Go.Proofs.Ytpllolefmijfdaa
open Go.RowKit

def rW (i : Nat) : Nat × Nat := (floatOfInt .f64 ((i : Int) + 1), 4607182418800017408)
def oW : Option Nat → Nat × Nat
  | none => (0, 4607182418800017408)
  | some i => rW i
abbrev nis (l : List Nat) : List Value := ints (l.map fun k => ((k : Nat) : Int))
def addK : Option Nat → List Nat → List Nat
  | none, ks => ks
  | some i, ks => if i ∈ ks then ks else ks ++ [i]
def addW : Option Nat → List Nat → List Nat → List Nat
  | none, _, wk => wk
  | some i, ks, wk => if i ∈ ks then wk else wk ++ [i]

theorem rW_inj {i j : Nat} (hi : i ≤ 1000000) (hj : j ≤ 1000000) (h : rW i = rW j) : i = j := by
  have h1 : floatOfInt .f64 ((i : Int) + 1) = floatOfInt .f64 ((j : Int) + 1) := congrArg Prod.fst h
  have := f_inj (by omega) (by omega) h1
  omega
theorem oW_some {o : Option Nat} {i : Nat} (ho : ∀ j, o = some j → j ≤ 1000000) (hi : i ≤ 1000000) (h : oW o = rW i) : o = some i := by
  cases o with
  | none =>
    have h1 : (0 : Nat) = floatOfInt .f64 ((i : Int) + 1) := congrArg Prod.fst h
    rw [← f_zero] at h1
    have := f_inj (by omega) (by omega) h1
    omega
  | some j => rw [rW_inj (ho j rfl) hi h]

/-- The word of one of n things, or of none. -/
def OkW (n : Nat) (z : Nat × Nat) : Prop := ∃ o : Option Nat, z = oW o ∧ ∀ i, o = some i → i < n
theorem OkW.mono {n m : Nat} {z : Nat × Nat} (h : OkW n z) (hm : n ≤ m) : OkW m z := h.imp fun _ h => ⟨h.1, fun i hi => Nat.lt_of_lt_of_le (h.2 i hi) hm⟩
theorem OkW.none (n : Nat) : OkW n (0, 4607182418800017408) := ⟨.none, rfl, fun _ h => by simp at h⟩
theorem OkW.ref {n i : Nat} (h : i < n) : OkW n (rW i) := ⟨some i, rfl, fun _ e => by injection e with e; omega⟩

/-- All references are such words. -/
structure WellF (st : GS) : Prop where
  glo : ∀ v ∈ st.glo, OkW st.th.length (v.x, v.y)
  loc : ∀ l, st.loc = some l → ∀ v ∈ l, v.r = true → OkW st.th.length (v.x, v.y)
  fld : ∀ (i : Nat) t, st.th[i]? = some t → ∀ (k : Nat) z, t.l[k]? = some z → ∃ b, refB t k = some b ∧ (b = true → OkW st.th.length z)
  rsl : ∀ (i : Nat) t, st.th[i]? = some t → t.rs.length ≤ 1000000
  len : st.th.length ≤ 100000

/-- What is reached. -/
inductive Rch (st : GS) : Nat → Prop
  | glo {v : Vl} {i : Nat} : v ∈ st.glo → (v.x, v.y) = rW i → i < st.th.length → Rch st i
  | loc {l : List Vl} {v : Vl} {i : Nat} : st.loc = some l → v ∈ l → v.r = true → (v.x, v.y) = rW i → i < st.th.length → Rch st i
  | fld {i : Nat} {t : Th} {k j : Nat} : Rch st i → st.th[i]? = some t → refB t k = some true → t.l[k]? = some (rW j) → j < st.th.length → Rch st j
theorem Rch.lt {st : GS} {i : Nat} (h : Rch st i) : i < st.th.length := by cases h <;> assumption

/-- The word is of none, or of one that is met. -/
def Cov (ks : List Nat) (z : Nat × Nat) : Prop := ∃ o : Option Nat, z = oW o ∧ ∀ i, o = some i → i ∈ ks
theorem Cov.mono {ks ks' : List Nat} {z : Nat × Nat} (h : Cov ks z) (hs : ∀ i ∈ ks, i ∈ ks') : Cov ks' z := h.imp fun _ h => ⟨h.1, fun i hi => hs i (h.2 i hi)⟩
def Closed (st : GS) (ks : List Nat) (i : Nat) : Prop := ∀ t (k : Nat) z, st.th[i]? = some t → refB t k = some true → t.l[k]? = some z → Cov ks z

/-- What holds all the while: P: those whose fields are looked at just now. -/
structure Bas (st : GS) (P : Nat → Prop) (ks wk : List Nat) : Prop where
  rch : ∀ i ∈ ks, Rch st i
  nd : ks.Nodup
  sub : ∀ i ∈ wk, i ∈ ks
  le : wk.length ≤ ks.length
  cl : ∀ i ∈ ks, i ∈ wk ∨ P i ∨ Closed st ks i

theorem mem_addK {o : Option Nat} {ks : List Nat} {i : Nat} (h : i ∈ ks) : i ∈ addK o ks := by
  cases o with
  | none => exact h
  | some j =>
    show i ∈ if j ∈ ks then ks else ks ++ [j]
    split
    · exact h
    · exact List.mem_append_left _ h
theorem addK_self (i : Nat) (ks : List Nat) : i ∈ addK (some i) ks := by
  show i ∈ if i ∈ ks then ks else ks ++ [i]
  split
  · assumption
  · simp
theorem cov_add (o : Option Nat) (ks : List Nat) : Cov (addK o ks) (oW o) := ⟨o, rfl, fun i e => by subst e; exact addK_self i ks⟩

theorem Bas.start (st : GS) : Bas st (fun _ => False) [] [] := ⟨by simp, by simp, by simp, by simp, by simp⟩
theorem Bas.grey {st : GS} {P : Nat → Prop} {ks wk : List Nat} (h : Bas st P ks wk) (o : Option Nat) (ho : ∀ i, o = some i → Rch st i) : Bas st P (addK o ks) (addW o ks wk) ∧ (addK o ks).length - (addW o ks wk).length = ks.length - wk.length := by
  cases o with
  | none => exact ⟨h, rfl⟩
  | some i =>
    unfold addK addW
    by_cases hi : i ∈ ks
    · simp only [hi, if_true]; exact ⟨h, trivial⟩
    · simp only [hi, if_false]
      refine ⟨⟨?_, ?_, ?_, ?_, ?_⟩, by simp⟩
      · intro j hj
        rcases List.mem_append.1 hj with hj | hj
        · exact h.rch j hj
        · simp at hj; subst hj; exact ho j rfl
      · rw [List.nodup_append]
        refine ⟨h.nd, by simp, ?_⟩
        intro a ha b hb e
        simp at hb
        subst hb; subst e
        exact hi ha
      · intro j hj
        rcases List.mem_append.1 hj with hj | hj
        · exact List.mem_append_left _ (h.sub j hj)
        · exact List.mem_append_right _ hj
      · have := h.le; simp; exact this
      · intro j hj
        rcases List.mem_append.1 hj with hj | hj
        · rcases h.cl j hj with h1 | h1 | h1
          · exact .inl (List.mem_append_left _ h1)
          · exact .inr (.inl h1)
          · exact .inr (.inr fun t k z a b c => (h1 t k z a b c).mono fun _ hk => List.mem_append_left _ hk)
        · exact .inl (List.mem_append_right _ hj)
/-- The last of the work is taken. -/
theorem Bas.pop {st : GS} {ks wk : List Nat} {x : Nat} (h : Bas st (fun _ => False) ks (wk ++ [x])) : Bas st (fun i => i = x) ks wk := by
  refine ⟨h.rch, h.nd, fun i hi => h.sub i (List.mem_append_left _ hi), by have := h.le; simp at this; omega, fun i hi => ?_⟩
  rcases h.cl i hi with h1 | h1 | h1
  · rcases List.mem_append.1 h1 with h1 | h1
    · exact .inl h1
    · exact .inr (.inl (by simpa using h1))
  · exact h1.elim
  · exact .inr (.inr h1)
theorem Bas.done {st : GS} {ks wk : List Nat} {x : Nat} (h : Bas st (fun i => i = x) ks wk) (hc : Closed st ks x) : Bas st (fun _ => False) ks wk := by
  refine ⟨h.rch, h.nd, h.sub, h.le, fun i hi => ?_⟩
  rcases h.cl i hi with h1 | rfl | h1
  · exact .inl h1
  · exact .inr (.inr hc)
  · exact .inr (.inr h1)
theorem nodup_le (n : Nat) : ∀ (l : List Nat), l.Nodup → (∀ i ∈ l, i < n) → l.length ≤ n := by
  induction n with
  | zero =>
    intro l _ h
    cases l with
    | nil => simp
    | cons a l => exact absurd (h a (by simp)) (by omega)
  | succ n ih =>
    intro l hd h
    have h1 := ih (l.erase n) (hd.erase n) (fun i hi => by
      have h2 := (hd.mem_erase_iff).1 hi
      have := h i h2.2
      have := h2.1
      omega)
    rw [List.length_erase] at h1
    split at h1 <;> omega
theorem Bas.lt {st : GS} {P : Nat → Prop} {ks wk : List Nat} (h : Bas st P ks wk) : ks.length ≤ st.th.length := nodup_le _ ks h.nd fun i hi => (h.rch i hi).lt

/-- Where there is no work left, what is met is what is reached. -/
theorem Bas.all {st : GS} {ks : List Nat} (hw : WellF st) (h : Bas st (fun _ => False) ks []) (hg : ∀ v ∈ st.glo, Cov ks (v.x, v.y)) (hl : ∀ l, st.loc = some l → ∀ v ∈ l, v.r = true → Cov ks (v.x, v.y)) (i : Nat) : i ∈ ks ↔ Rch st i := by
  have hlen := hw.len
  have hk : ∀ j ∈ ks, j ≤ 1000000 := fun j hj => by have := (h.rch j hj).lt; omega
  have get : ∀ {z : Nat × Nat} {j : Nat}, Cov ks z → z = rW j → j < st.th.length → j ∈ ks := fun {z j} hc e hj => by
    obtain ⟨o, rfl, ho⟩ := hc
    exact ho j (oW_some (fun k hk' => hk k (ho k hk')) (by omega) e)
  refine ⟨h.rch i, fun hr => ?_⟩
  induction hr with
  | glo hv e hi => exact get (hg _ hv) e hi
  | loc e1 hv e2 e hi => exact get (hl _ e1 _ hv e2) e hi
  | fld h1 h2 h3 h4 hj ih =>
    rcases h.cl _ ih with h5 | h5 | h5
    · simp at h5
    · exact h5.elim
    · exact get (h5 _ _ _ h2 h3 h4) rfl hj

noncomputable def reachL (st : GS) : List Nat := (List.range st.th.length).filter fun i => @decide (Rch st i) (Classical.propDecidable _)
theorem reachL_eq {st : GS} {ks : List Nat} (h : ∀ i, i ∈ ks ↔ Rch st i) : reachL st = (List.range st.th.length).filter fun i => decide (i ∈ ks) := by
  unfold reachL
  refine List.filter_congr fun i _ => ?_
  by_cases hi : i ∈ ks
  · simp [hi, (h i).1 hi]
  · have : ¬ Rch st i := fun hr => hi ((h i).2 hr)
    simp [hi, this]
theorem reachL_all {st : GS} (h : ∀ i, i < st.th.length → Rch st i) : reachL st = List.range st.th.length := by
  unfold reachL
  refine List.filter_eq_self.2 fun i hi => ?_
  simp [h i (by simpa using hi)]
theorem reachL_none {st : GS} (h : ∀ i, i < st.th.length → ¬ Rch st i) : reachL st = [] := by
  unfold reachL
  refine List.filter_eq_nil_iff.2 fun i hi => ?_
  simp [h i (by simpa using hi)]
theorem reachL_mem {st : GS} {i : Nat} : i ∈ reachL st → i < st.th.length := fun h => by simpa using (List.mem_filter.1 h).1

end Go.Proofs.Ytpllolefmijfdaa
