/-
  The contract of the helper wide; chains of things, and what of them is reached.
-/
import Derived.Test.YtpllolefmijfdaaGrH
namespace Go.Proofs.Ytpllolefmijfdaa
open Go.RowKit

def cW : Cn := ⟨60, 60, 2, 2, 4, 0, 4, 0⟩
abbrev b3 : List Bool := [true, true, false]
def shW : List (Bool × List Bool) := [(false, b3), (true, [true]), (true, [false])]
/-- The shapes of wide, in three blocks of their own. -/
def lW (v1 v2 v3 : Value) : List Sh := [⟨false, v1, b3⟩, ⟨true, v2, [true]⟩, ⟨true, v3, [false]⟩]

theorem five (w : World) (o0 o1 o2 o3 o4 : Obj) : Pure w (((((w.alloc o0).alloc o1).alloc o2).alloc o3).alloc o4) ∧ (((((w.alloc o0).alloc o1).alloc o2).alloc o3).alloc o4).heap[w.heap.size]? = some o0 ∧ (((((w.alloc o0).alloc o1).alloc o2).alloc o3).alloc o4).heap[w.heap.size + 1]? = some o1 ∧
    (((((w.alloc o0).alloc o1).alloc o2).alloc o3).alloc o4).heap[w.heap.size + 1 + 1]? = some o2 ∧ (((((w.alloc o0).alloc o1).alloc o2).alloc o3).alloc o4).heap[w.heap.size + 1 + 1 + 1]? = some o3 ∧ (((((w.alloc o0).alloc o1).alloc o2).alloc o3).alloc o4).heap[w.heap.size + 1 + 1 + 1 + 1]? = some o4 := by
  have r : ∀ (x : World) (o : Obj), Pure x (x.alloc o) := fun x o => (Only.refl (fun _ => False) x).alloc o
  have s1 : (w.alloc o0).heap.size = w.heap.size + 1 := by simp
  have s2 : ((w.alloc o0).alloc o1).heap.size = w.heap.size + 1 + 1 := by simp
  have s3 : (((w.alloc o0).alloc o1).alloc o2).heap.size = w.heap.size + 1 + 1 + 1 := by simp
  have s4 : ((((w.alloc o0).alloc o1).alloc o2).alloc o3).heap.size = w.heap.size + 1 + 1 + 1 + 1 := by simp
  have a0 := heap_alloc_new w o0
  have a1 := heap_alloc_new (w.alloc o0) o1
  have a2 := heap_alloc_new ((w.alloc o0).alloc o1) o2
  have a3 := heap_alloc_new (((w.alloc o0).alloc o1).alloc o2) o3
  have a4 := heap_alloc_new ((((w.alloc o0).alloc o1).alloc o2).alloc o3) o4
  rw [s1] at a1
  rw [s2] at a2
  rw [s3] at a3
  rw [s4] at a4
  exact ⟨((((r w o0).then (r _ o1)).then (r _ o2)).then (r _ o3)).then (r _ o4), Pure.blk (((((r _ o1)).then (r _ o2)).then (r _ o3)).then (r _ o4)) a0, Pure.blk ((((r _ o2)).then (r _ o3)).then (r _ o4)) a1, Pure.blk (((r _ o3)).then (r _ o4)) a2, Pure.blk (r _ o4) a3, a4⟩
/-- A slice of a block that is written out. -/
theorem sl_lit {w : World} {b : Nat} {bs : List Bool} {T : TypeId} (h : w.heap[b]? = some (.cells (bools bs).toArray T (0, 0))) (hn : bs.length ≤ 1000) : SlG w w.heap.size (.slice (some ⟨b, 0, none⟩) bs.length bs.length) (bools bs) :=
  ⟨_, bs.length, by rw [bools_length], by rw [bools_length]; exact Nat.le_refl _, by omega, fun _ => ⟨b, 0, rfl, (Array.getElem?_eq_some_iff.1 h).1, fun j u hj => by rw [cell_of_row _ _ _ _ _ _ h, Nat.zero_add, List.getElem?_toArray]; exact hj⟩⟩

set_option maxRecDepth 100000 in
set_option maxHeartbeats 4000000 in
theorem wide_any (w : World) : Calls Try.prog 7 #[] w fun e w' => ∃ (b : Nat) (v1 v2 v3 : Value), e = .returned (cnV cW (.slice (some ⟨b, 0, none⟩) 3 3)) ∧ Pure w w' ∧ ShsR w' w'.heap.size (.slice (some ⟨b, 0, none⟩) 3 3) (lW v1 v2 v3) := by
  go_enter Try.func7, Try.ntmps7
  go_wp2_with fail
  obtain ⟨hp, q0, q1, q2, q3, q4⟩ := five w (.cells #[.int .i64 60, .int .i64 60, .int .i64 2, .int .i64 2, .int .i64 4, .int .i64 0, .int .i64 4, .int .i64 0, .slice (some ⟨w.heap.size + 1 + 1 + 1 + 1, 0, none⟩) 3 3] 25)
    (.cells #[.bool true, .bool true, .bool false] 4) (.cells #[.bool true] 4) (.cells #[.bool false] 4)
    (.cells #[.bool false, .slice (some ⟨w.heap.size + 1, 0, none⟩) 3 3, .bool true, .slice (some ⟨w.heap.size + 1 + 1, 0, none⟩) 1 1, .bool true, .slice (some ⟨w.heap.size + 1 + 1 + 1, 0, none⟩) 1 1] 46)
  obtain ⟨c0, c1, c2, c3, c4, c5, c6, c7, c8⟩ := conf9 (c := cW) q0
  generalize ((((w.alloc _).alloc _).alloc _).alloc _).alloc _ = W at *
  refine bodyPost_ret (v := cnV cW (.slice (some ⟨w.heap.size + 1 + 1 + 1 + 1, 0, none⟩) 3 3)) (by simp [results, Try.results7, go_sem, c0, c1, c2, c3, c4, c5, c6, c7, c8]) rfl ⟨w.heap.size + 1 + 1 + 1 + 1, .slice (some ⟨w.heap.size + 1, 0, none⟩) 3 3, .slice (some ⟨w.heap.size + 1 + 1, 0, none⟩) 1 1, .slice (some ⟨w.heap.size + 1 + 1 + 1, 0, none⟩) 1 1, rfl, hp, ?_⟩
  refine ⟨⟨_, 3, rfl, Nat.le_refl _, by omega, fun _ => ⟨_, 0, rfl, (Array.getElem?_eq_some_iff.1 q4).1, fun j s hs => ?_⟩⟩, fun s hs => ?_⟩
  · have hj : j < 3 := (List.getElem?_eq_some_iff.1 hs).1
    rcases (by omega : j = 0 ∨ j = 1 ∨ j = 2) with rfl | rfl | rfl
    all_goals
      simp [lW] at hs
      subst hs
      constructor <;> (rw [cell_of_row _ _ _ _ _ _ q4]; rfl)
  · simp [lW] at hs
    rcases hs with rfl | rfl | rfl
    · exact sl_lit (bs := b3) q1 (by simp)
    · exact sl_lit (bs := [true]) q2 (by simp)
    · exact sl_lit (bs := [false]) q3 (by simp)

/-! ### Chains -/
def nW : Nat × Nat := (0, 4607182418800017408)
/-- The thing number j of a chain that hangs together by the field f. -/
def thC (f j : Nat) : Th := ⟨0, 0, false, b3, ([nW, nW, (0, 0)] : List (Nat × Nat)).set f (if j = 0 then nW else rW (j - 1))⟩
def chn (f n : Nat) : List Th := (List.range n).map (thC f)
theorem chn_length (f n : Nat) : (chn f n).length = n := by simp [chn]
theorem chn_get (f n i : Nat) (h : i < n) : (chn f n)[i]? = some (thC f i) := by simp [chn, h]
theorem chn_get' {f n i : Nat} {t : Th} (h : (chn f n)[i]? = some t) : i < n ∧ t = thC f i := by
  have := (List.getElem?_eq_some_iff.1 h).1
  rw [chn_length] at this
  rw [chn_get f n i this] at h
  injection h with h
  exact ⟨this, h.symm⟩
theorem chn_made (f : Nat) (hf : f < 2) : mdTh 0 false 0 b3 3 = thC f 0 := by
  rcases (by omega : f = 0 ∨ f = 1) with rfl | rfl <;> rfl
theorem chn_next (f n : Nat) (hf : f < 2) (hn : 0 < n) : (chn f n ++ [mdTh 0 false 0 b3 3]).set n { mdTh 0 false 0 b3 3 with l := (mdTh 0 false 0 b3 3).l.set f (rW (n - 1)) } = chn f (n + 1) := by
  have e : ({ mdTh 0 false 0 b3 3 with l := (mdTh 0 false 0 b3 3).l.set f (rW (n - 1)) } : Th) = thC f n := by
    have h0 : ¬ n = 0 := by omega
    rcases (by omega : f = 0 ∨ f = 1) with rfl | rfl <;> simp only [thC, if_neg h0] <;> rfl
  rw [e, List.set_append_right _ _ (by rw [chn_length]; exact Nat.le_refl n), chn_length, Nat.sub_self]
  simp [chn, List.range_succ]


/-- A thing of the first shape of wide. -/
def OkT (n : Nat) (t : Th) : Prop := ∃ u v q : Nat × Nat, t = ⟨0, 0, false, b3, [u, v, q]⟩ ∧ OkW n u ∧ OkW n v
theorem okT_thC (f j n : Nat) (hf : f < 2) (hj : j ≤ n) : OkT n (thC f j) := by
  have hn : OkW n nW := OkW.none n
  have hx : OkW n (if j = 0 then nW else rW (j - 1)) := by
    by_cases h0 : j = 0
    · rw [if_pos h0]; exact hn
    · rw [if_neg h0]; exact OkW.ref (by omega)
  rcases (by omega : f = 0 ∨ f = 1) with rfl | rfl
  · exact ⟨_, nW, (0, 0), rfl, hx, hn⟩
  · exact ⟨nW, _, (0, 0), rfl, hn, hx⟩
theorem okT_set {n m : Nat} {t : Th} {z : Nat × Nat} (h : OkT n t) (hm : m < 2) (hz : OkW n z) : OkT n { t with l := t.l.set m z } := by
  obtain ⟨u, v, q, rfl, hu, hv⟩ := h
  rcases (by omega : m = 0 ∨ m = 1) with rfl | rfl
  · exact ⟨z, v, q, rfl, hz, hv⟩
  · exact ⟨u, z, q, rfl, hu, hz⟩
theorem OkT.fld {n : Nat} {t : Th} (h : OkT n t) (k : Nat) (z : Nat × Nat) (hz : t.l[k]? = some z) : ∃ b, refB t k = some b ∧ (b = true → OkW n z) := by
  obtain ⟨u, v, q, rfl, hu, hv⟩ := h
  have hk : k < 3 := (List.getElem?_eq_some_iff.1 hz).1
  rcases (by omega : k = 0 ∨ k = 1 ∨ k = 2) with rfl | rfl | rfl
  · simp at hz; subst hz; exact ⟨true, rfl, fun _ => hu⟩
  · simp at hz; subst hz; exact ⟨true, rfl, fun _ => hv⟩
  · exact ⟨false, rfl, fun h => by cases h⟩

/-- A graph of wide's configuration. -/
def stW (th : List Th) (l : Option (List Vl)) (g : List Vl) : GS := ⟨cW, shW, th, l, g⟩
theorem wellW (th : List Th) (l : Option (List Vl)) (g : List Vl) (ht : ∀ (i : Nat) t, th[i]? = some t → OkT th.length t) (hl : ∀ l', l = some l' → ∀ v ∈ l', v.r = true → OkW th.length (v.x, v.y)) (hg : ∀ v ∈ g, OkW th.length (v.x, v.y)) (hn : th.length ≤ 100000) : WellF (stW th l g) where
  glo := hg
  loc := hl
  fld := fun i t h k z hz => (ht i t h).fld k z hz
  rsl := fun i t h => by
    obtain ⟨u, v, q, rfl, -, -⟩ := ht i t h
    simp
  len := hn
theorem size3 : sizeI false 3 0 = 1 := by decide +kernel
theorem spine3 : spineI false 3 0 = 0 := by decide +kernel
theorem szW (th : List Th) (l : Option (List Vl)) (g : List Vl) (ht : ∀ (i : Nat) t, th[i]? = some t → OkT th.length t) (i : Nat) : szI (stW th l g) i = (if i < th.length then 1 else 0) ∧ spI (stW th l g) i = 0 := by
  unfold szI spI stW
  dsimp only
  by_cases h : i < th.length
  · rw [if_pos h]
    obtain ⟨t, hi⟩ : ∃ t, th[i]? = some t := ⟨_, List.getElem?_eq_getElem h⟩
    obtain ⟨u, v, q, e, -, -⟩ := ht i t hi
    rw [hi, e]
    exact ⟨size3, spine3⟩
  · rw [if_neg h, List.getElem?_eq_none (by omega)]
    exact ⟨rfl, rfl⟩
theorem szOkW (th : List Th) (l : Option (List Vl)) (g : List Vl) (ht : ∀ (i : Nat) t, th[i]? = some t → OkT th.length t) : SzOk (stW th l g) := by
  constructor <;> intro i
  · rw [(szW th l g ht i).1]; split <;> omega
  · rw [(szW th l g ht i).2]; omega
theorem sumI_const (f : Nat → Int) (c : Int) : ∀ l : List Nat, (∀ i ∈ l, f i = c) → sumI f l = c * l.length
  | [], _ => by simp [sumI]
  | i :: l, h => by
    have e : sumI f (i :: l) = f i + sumI f l := rfl
    rw [e, h i (by simp), sumI_const f c l (fun j hj => h j (by simp [hj])), List.length_cons, Int.natCast_add, Int.mul_add]
    simp [Int.add_comm]
theorem liveW (th : List Th) (l : Option (List Vl)) (g : List Vl) (ht : ∀ (i : Nat) t, th[i]? = some t → OkT th.length t) (hr : ∀ i, i < th.length → Rch (stW th l g) i) : (reachL (stW th l g)).length = th.length ∧ sumI (szI (stW th l g)) (reachL (stW th l g)) = th.length ∧ sumI (spI (stW th l g)) (reachL (stW th l g)) = 0 := by
  have e : reachL (stW th l g) = List.range th.length := reachL_all hr
  rw [e]
  refine ⟨by simp, ?_, ?_⟩
  · rw [sumI_const _ 1 _ (fun i hi => by rw [(szW th l g ht i).1, if_pos (by simpa using hi)])]; simp
  · rw [sumI_const _ 0 _ (fun i hi => (szW th l g ht i).2)]; simp
theorem liveW0 (st : GS) (hr : ∀ i, ¬ Rch st i) : (reachL st).length = 0 ∧ sumI (szI st) (reachL st) = 0 ∧ sumI (spI st) (reachL st) = 0 := by
  rw [reachL_none (fun i _ => hr i)]
  simp [sumI]

theorem all_down {st : GS} {n : Nat} (hn : n = st.th.length) (hroot : Rch st (n - 1)) (hlink : ∀ i, 0 < i → i < n → ∃ t k, st.th[i]? = some t ∧ refB t k = some true ∧ t.l[k]? = some (rW (i - 1))) : ∀ i, i < n → Rch st i := by
  have key : ∀ d, d < n → Rch st (n - 1 - d) := fun d => by
    induction d with
    | zero => exact fun _ => hroot
    | succ d ih =>
      intro hd
      obtain ⟨t, k, h1, h2, h3⟩ := hlink (n - 1 - d) (by omega) (by omega)
      rw [show n - 1 - (d + 1) = n - 1 - d - 1 from by omega]
      exact .fld (ih (by omega)) h1 h2 h3 (by omega)
  intro i hi
  have := key (n - 1 - i) (by omega)
  rwa [show n - 1 - (n - 1 - i) = i from by omega] at this
theorem none_up {st : GS} (hn : st.th.length ≤ 100000) (hg : ∀ v ∈ st.glo, (v.x, v.y) = nW) (hl : ∀ l, st.loc = some l → ∀ v ∈ l, v.r = true → (v.x, v.y) = nW) (i : Nat) : ¬ Rch st i := by
  intro hr
  have no : ∀ {z : Nat × Nat} {j : Nat}, z = nW → z = rW j → j < st.th.length → False := fun {z j} h1 h2 h3 => by
    have := oW_some (o := none) (i := j) (fun _ e => by cases e) (by omega) (h1.symm.trans h2)
    cases this
  induction hr with
  | glo h1 h2 h3 => exact no (hg _ h1) h2 h3
  | loc h1 h2 h3 h4 h5 => exact no (hl _ h1 _ h2 h3) h4 h5
  | fld _ _ _ _ _ ih => exact ih

/-- What a set of things has at each place. -/
theorem okT_upd {th : List Th} (ht : ∀ (i : Nat) t, th[i]? = some t → OkT th.length t) (j : Nat) (t : Th) (h : OkT th.length t) : ∀ (i : Nat) u, (th.set j t)[i]? = some u → OkT (th.set j t).length u := by
  intro i u hu
  rw [List.length_set]
  rw [List.getElem?_set] at hu
  split at hu
  · split at hu
    · injection hu with hu; subst hu; exact h
    · cases hu
  · exact ht i u hu
theorem okT_chn (f n : Nat) (hf : f < 2) : ∀ (i : Nat) t, (chn f n)[i]? = some t → OkT (chn f n).length t := by
  intro i t h
  obtain ⟨hi, rfl⟩ := chn_get' h
  rw [chn_length]
  exact okT_thC f i n hf (by omega)
theorem zero_of_thC (f i : Nat) (hf : f < 2) (hi : 0 < i) : refB (thC f i) f = some true ∧ (thC f i).l[f]? = some (rW (i - 1)) := by
  have h0 : ¬ i = 0 := by omega
  rcases (by omega : f = 0 ∨ f = 1) with rfl | rfl
  · exact ⟨rfl, by simp [thC, h0]⟩
  · exact ⟨rfl, by simp [thC, h0]⟩

/-- A chain one longer: the new one in local a, its field f refers to what is in local b; then it is copied to local d. -/
theorem runs_chain (f n a b d : Nat) (hf : f < 2) (hn : 0 < n) (hn1 : n ≤ 1000) (l : List Vl) (g : List Vl) (h4 : l.length = 4) (ha : a < 4) (_hb : b < 4) (hd : d < 4) (hab : b ≠ a) (hl : l[b]? = some (refVl (n - 1))) :
    ∃ v, Runs (stW (chn f n) (some l) g) zeroVl 0 [⟨1, a, 0, 0, 0, 0, 0⟩, ⟨4, a, b, 0, f, 0, 0⟩, ⟨14, d, a, 0, 0, 0, 0⟩] v 0 (stW (chn f (n + 1)) (some ((l.set a (refVl n)).set d (refVl n))) g) := by
  have h44 : ∀ m : List Vl, m.length = 4 → (m.length : Int) ≤ 4 := fun m h => by omega
  have h1 : Stp (stW (chn f n) (some l) g) ⟨1, a, 0, 0, 0, 0, 0⟩ (refVl n) 0 (stW (chn f n ++ [mdTh 0 false 0 b3 3]) (some (l.set a (refVl n))) g) := by
    have := stp_new (st := stW (chn f n) (some l) g) (l := l) rfl (h44 l h4) (by show (chn f n).length ≤ _; rw [chn_length]; omega) a 0 (by omega) b3 rfl (by simp) (by rw [show b3.length = 3 from rfl, size3]; omega) (by rw [show b3.length = 3 from rfl, size3]; show (1 : Int) ≤ 60; omega) (by show (0 : Int) ≤ 60; omega) 0 0 0
    have hlen : (stW (chn f n) (some l) g).th.length = n := chn_length f n
    rw [hlen] at this
    exact this
  have h2 : Stp (stW (chn f n ++ [mdTh 0 false 0 b3 3]) (some (l.set a (refVl n))) g) ⟨4, a, b, 0, f, 0, 0⟩ zeroVl 0 (stW (chn f (n + 1)) (some (l.set a (refVl n))) g) := by
    have hst := stp_store (st := stW (chn f n ++ [mdTh 0 false 0 b3 3]) (some (l.set a (refVl n))) g) (l := l.set a (refVl n)) rfl (h44 _ (by rw [List.length_set, h4])) (by simp [stW, chn_length]; omega) a b n f (mdTh 0 false 0 b3 3) (rW (n - 1)).1 (rW (n - 1)).2
      (by rw [List.getElem?_set_self (by omega)]) (by rw [List.getElem?_set_ne (fun e => hab e.symm), hl]; rfl) (by simp [stW, chn_length]) rfl (by rcases (by omega : f = 0 ∨ f = 1) with rfl | rfl <;> decide) (by rcases (by omega : f = 0 ∨ f = 1) with rfl | rfl <;> rfl) (by simp [mdTh]) 0 0 0
    have hc := chn_next f n hf hn
    simp only [stW] at hst ⊢
    rw [hc] at hst
    exact hst
  have h3 : Stp (stW (chn f (n + 1)) (some (l.set a (refVl n))) g) ⟨14, d, a, 0, 0, 0, 0⟩ (refVl n) 0 (stW (chn f (n + 1)) (some ((l.set a (refVl n)).set d (refVl n))) g) :=
    stp_copy (st := stW (chn f (n + 1)) (some (l.set a (refVl n))) g) (l := l.set a (refVl n)) rfl (h44 _ (by rw [List.length_set, h4])) d a (by rw [List.length_set]; omega) (refVl n) (by rw [List.getElem?_set_self (by omega)]) 0 0 0 0
  exact ⟨_, .cons h1 (.cons h2 (.cons h3 .nil))⟩

end Go.Proofs.Ytpllolefmijfdaa
