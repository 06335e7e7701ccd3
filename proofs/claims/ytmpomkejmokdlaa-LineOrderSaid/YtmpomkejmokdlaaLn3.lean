/-
  LineOrder: those that wait are granted and failed in the order in which they came; whoever came behind a Begin has no Cycle at its End. For every input.
-/
import Derived.Test.YtmpomkejmokdlaaLine6
import Derived.Test.YtmpomkejmokdlaaOp10
import Derived.Deep.DeepCutAuto
import Derived.Deep.CutBlock
import Derived.IntWalk
namespace Go.Proofs.Ytmpomkejmokdlaa.lineOrder
open Go.RowKit Go.ChangeShapes Go.WideShapes Go.ChangeAt

/-! ### Plain -/
/-- The threads that wait, in order. -/
def ws (l : List En) : List Int := (l.filter isW).map En.thread
theorem ws_add (l : List En) (e : En) : ws (l ++ [fresh e]) = ws l ++ [e.thread] := by simp [ws, fresh, isW]
theorem ws_count (l : List En) : l.countP isW = (ws l).length := by simp [ws, List.countP_eq_length_filter]
theorem ws_map (f : En → En) (h1 : ∀ e, (f e).state = e.state) (h2 : ∀ e, (f e).thread = e.thread) (l : List En) : ws (l.map f) = ws l := by
  induction l with
  | nil => rfl
  | cons a l ih =>
    have hw : isW (f a) = isW a := by simp [isW, h1]
    simp only [ws, List.map_cons] at ih ⊢
    cases ha : isW a with
    | true => rw [List.filter_cons_of_pos (by rw [hw, ha]), List.filter_cons_of_pos ha, List.map_cons, List.map_cons, h2, ih]
    | false => rw [List.filter_cons_of_neg (by rw [hw, ha]; simp), List.filter_cons_of_neg (by rw [ha]; simp), ih]
theorem ws_none {l : List En} (h : ws l = []) : ixI isW l = -1 := ixI_none (fun j e he => by
  cases hw : isW e with
  | false => rfl
  | true =>
    have : e.thread ∈ ws l := List.mem_map.2 ⟨e, List.mem_filter.2 ⟨List.mem_of_getElem? he, hw⟩, rfl⟩
    rw [h] at this
    simp at this)
theorem ws_first {l : List En} {t : Int} {ts : List Int} (h : ws l = t :: ts) : ∃ (j : Nat) (e : En), l[j]? = some e ∧ isW e = true ∧ e.thread = t ∧ ixI isW l = j ∧ ∀ e', isW e' = false → ws (l.set j e') = ts := by
  suffices H : ∃ (j : Nat) (e : En), l[j]? = some e ∧ isW e = true ∧ e.thread = t ∧ (∀ i, i < j → ∀ x, l[i]? = some x → isW x = false) ∧ ∀ e', isW e' = false → ws (l.set j e') = ts by
    obtain ⟨j, e, h1, h2, h3, h4, h5⟩ := H
    exact ⟨j, e, h1, h2, h3, ixI_at h1 h2 h4, h5⟩
  induction l with
  | nil => simp [ws] at h
  | cons a l ih =>
    cases ha : isW a with
    | true =>
      have h' : ws (a :: l) = a.thread :: ws l := by simp [ws, ha]
      rw [h'] at h
      injection h with h1 h2
      refine ⟨0, a, rfl, ha, h1, fun i hi => by omega, fun e' he' => ?_⟩
      rw [List.set_cons_zero, ← h2]
      simp [ws, he']
    | false =>
      have h' : ws (a :: l) = ws l := by simp [ws, ha]
      rw [h'] at h
      obtain ⟨j, e, h1, h2, h3, h4, h5⟩ := ih h
      refine ⟨j + 1, e, by simpa using h1, h2, h3, fun i hi x hx => ?_, fun e' he' => ?_⟩
      · cases i with
        | zero => simp at hx; subst hx; exact ha
        | succ i => exact h4 i (by omega) x (by simpa using hx)
      · rw [List.set_cons_succ]
        have := h5 e' he'
        simp only [ws] at this ⊢
        rw [List.filter_cons_of_neg (by simp [ha]), this]
theorem ix_thread {l : List En} (hn : (l.map En.thread).Nodup) {j : Nat} {e : En} (h : l[j]? = some e) : ixI (isT e.thread) l = j := by
  obtain ⟨hj, hje⟩ := List.getElem?_eq_some_iff.1 h
  refine ixI_at h (by simp [isT]) (fun i hi x hx => ?_)
  obtain ⟨hi', hix⟩ := List.getElem?_eq_some_iff.1 hx
  have := (List.pairwise_iff_getElem.1 hn) i j (by simpa using hi') (by simpa using hj) hi
  simp only [List.getElem_map, hje, hix] at this
  simp [isT, this]
theorem ws_mem {l : List En} {t : Int} (h : t ∈ ws l) : ∃ (j : Nat) (e : En), l[j]? = some e ∧ isW e = true ∧ e.thread = t := by
  obtain ⟨e, he, rfl⟩ := List.mem_map.1 h
  obtain ⟨h1, h2⟩ := List.mem_filter.1 he
  obtain ⟨j, hj⟩ := List.mem_iff_getElem?.1 h1
  exact ⟨j, e, hj, h2, rfl⟩
theorem ix_new {l : List En} {t : Int} (h : t ∉ l.map En.thread) : ixI (isT t) l = -1 := ixI_none (fun j e he => by
  have : e.thread ≠ t := fun e' => h (List.mem_map.2 ⟨e, List.mem_of_getElem? he, e'⟩)
  simp [isT, this])
theorem ix_old {l : List En} {t : Int} (h : t ∈ l.map En.thread) : 0 ≤ ixI (isT t) l := by
  obtain ⟨e, he, rfl⟩ := List.mem_map.1 h
  have : l.findIdx (isT e.thread) < l.length := List.findIdx_lt_length_of_exists ⟨e, he, by simp [isT]⟩
  rw [ixI, if_pos this]
  omega
/-- How many cycles the request of a thread has seen. -/
def cy (l : List En) (t : Int) : Int := ((l.find? (isT t)).map En.cycles).getD 0
theorem cy_at {l : List En} (hn : (l.map En.thread).Nodup) {j : Nat} {e : En} (h : l[j]? = some e) : cy l e.thread = e.cycles := by
  have : l.find? (isT e.thread) = some e := by
    rw [List.find?_eq_some_iff_getElem]
    obtain ⟨hj, hje⟩ := List.getElem?_eq_some_iff.1 h
    refine ⟨by simp [isT], j, hj, hje, fun i hi => ?_⟩
    have := (List.pairwise_iff_getElem.1 hn) i j (by simp; omega) (by simpa using hj) hi
    simp only [List.getElem_map, hje] at this
    simp [isT, this]
  simp [cy, this]

/-- What is true of the requests, of those that wait, of those that were noted. -/
structure PI (l : List En) (os nt : List Int) (K : Nat) : Prop where
  eq : ws l = os
  nd : (l.map En.thread).Nodup
  nte : ∀ e ∈ l, isW e = true → (e.noted = true ↔ e.thread ∈ nt)
  ntm : ∀ t ∈ nt, t ∈ l.map En.thread
  cyc : ∀ e ∈ l, 0 ≤ e.cycles ∧ e.cycles ≤ K
  len : l.length ≤ K
theorem PI.le {l : List En} {os nt : List Int} {K : Nat} (h : PI l os nt K) : os.length ≤ K := by
  rw [← h.eq, ws, List.length_map]
  exact Nat.le_trans (List.length_filter_le _ _) h.len
theorem PI.more {l : List En} {os nt : List Int} {K : Nat} (h : PI l os nt K) : PI l os nt (K + 1) :=
  ⟨h.eq, h.nd, h.nte, h.ntm, fun e he => ⟨(h.cyc e he).1, by have := (h.cyc e he).2; omega⟩, by have := h.len; omega⟩
theorem PI.add {l : List En} {os nt : List Int} {K : Nat} (h : PI l os nt K) (x : En) (hx : x.thread ∉ l.map En.thread) : PI (l ++ [fresh x]) (os ++ [x.thread]) nt (K + 1) := by
  refine ⟨by rw [ws_add, h.eq], ?_, fun e he hw => ?_, fun t ht => ?_, fun e he => ?_, by rw [List.length_append]; have := h.len; simp; omega⟩
  · rw [List.map_append, List.nodup_append]
    refine ⟨h.nd, by simp, fun a ha b hb e => hx ?_⟩
    simp [fresh] at hb
    rw [← hb, ← e]
    exact ha
  · rcases List.mem_append.1 he with he | he
    · exact h.nte e he hw
    · simp at he
      subst he
      exact ⟨fun e => by simp [fresh] at e, fun e => absurd (h.ntm _ e) hx⟩
  · rw [List.map_append]
    exact List.mem_append_left _ (h.ntm t ht)
  · rcases List.mem_append.1 he with he | he
    · exact ⟨(h.cyc e he).1, by have := (h.cyc e he).2; omega⟩
    · simp at he
      subst he
      simp [fresh]
      omega
theorem PI.done {l : List En} {t : Int} {os nt : List Int} {K j : Nat} {e e' : En} (h : PI l (t :: os) nt K) (he : l[j]? = some e) (hws : ws (l.set j e') = os) (h1 : e'.thread = e.thread) (h2 : isW e' = false) (h3 : e'.cycles = e.cycles) : PI (l.set j e') os nt (K + 1) := by
  obtain ⟨hj, hje⟩ := List.getElem?_eq_some_iff.1 he
  have hm : (l.set j e').map En.thread = l.map En.thread := by
    rw [List.map_set, h1]
    apply List.ext_getElem (by simp)
    intro i h5 h6
    rw [List.getElem_set]
    split
    · rename_i hij
      subst hij
      simp [hje]
    · rfl
  refine ⟨hws, by rw [hm]; exact h.nd, fun x hx hw => ?_, fun t ht => by rw [hm]; exact h.ntm t ht, fun x hx => ?_, by rw [List.length_set]; have := h.len; omega⟩
  · rcases List.mem_or_eq_of_mem_set hx with hx | rfl
    · exact h.nte x hx hw
    · rw [h2] at hw; cases hw
  · rcases List.mem_or_eq_of_mem_set hx with hx | rfl
    · exact ⟨(h.cyc x hx).1, by have := (h.cyc x hx).2; omega⟩
    · have := h.cyc e (List.mem_of_getElem? he)
      rw [h3]
      omega
theorem map_thread (f : En → En) (h : ∀ e, (f e).thread = e.thread) (l : List En) : (l.map f).map En.thread = l.map En.thread := by
  rw [List.map_map]
  exact List.map_congr_left (fun e _ => h e)
theorem PI.begun {l : List En} {os nt : List Int} {K : Nat} (h : PI l os nt K) : PI (l.map note) os os (K + 1) := by
  have hm := map_thread note (fun _ => rfl) l
  refine ⟨by rw [ws_map note (fun _ => rfl) (fun _ => rfl), h.eq], by rw [hm]; exact h.nd, fun x hx hw => ?_, fun t ht => ?_, fun x hx => ?_, by rw [List.length_map]; have := h.len; omega⟩
  · obtain ⟨e, he, rfl⟩ := List.mem_map.1 hx
    have hw' : isW e = true := hw
    refine ⟨fun _ => ?_, fun _ => hw'⟩
    rw [← h.eq]
    exact List.mem_map.2 ⟨e, List.mem_filter.2 ⟨he, hw'⟩, rfl⟩
  · rw [hm]
    rw [← h.eq] at ht
    obtain ⟨e, he, rfl⟩ := List.mem_map.1 ht
    exact List.mem_map.2 ⟨e, (List.mem_filter.1 he).1, rfl⟩
  · obtain ⟨e, he, rfl⟩ := List.mem_map.1 hx
    have := h.cyc e he
    simp only [note]
    omega
theorem PI.ended {l : List En} {os nt : List Int} {K : Nat} (h : PI l os nt K) : PI (l.map tick) os [] (K + 1) := by
  have hm := map_thread tick (fun _ => rfl) l
  refine ⟨by rw [ws_map tick (fun _ => rfl) (fun _ => rfl), h.eq], by rw [hm]; exact h.nd, fun x hx hw => ?_, fun t ht => by simp at ht, fun x hx => ?_, by rw [List.length_map]; have := h.len; omega⟩
  · obtain ⟨e, he, rfl⟩ := List.mem_map.1 hx
    simp [tick]
  · obtain ⟨e, he, rfl⟩ := List.mem_map.1 hx
    have := h.cyc e he
    simp only [tick]
    split <;> omega

/-! ### Memory -/
structure Lo (w wr : World) (P : Nat) (v : Value) (l : List En) (o : Value) (os : List Int) (n : Value) (nt : List Int) : Prop where
  line : LineOf wr P v l
  ord : TailI wr w.heap.size o os
  sl : SlI wr wr.heap.size n nt
  apart : ∀ k, o.ownBlock = some k → ¬ LineS P v k
  nap : ∀ k, n.ownBlock = some k → ¬ LineS P v k ∧ o.ownBlock ≠ some k ∧ k < wr.heap.size
  new : ∀ k, LineS P v k → w.heap.size ≤ k
  gap : ∀ e ∈ l, ∀ q, e.gv.ownBlock = some q → o.ownBlock ≠ some q
  pure : Pure w wr
section
variable {w wr w2 : World} {P : Nat} {v v2 o o2 n n2 : Value} {l l2 : List En} {os os2 nt nt2 : List Int}
theorem Lo.keep (h : Lo w wr P v l o os n nt) (hp : Pure wr w2) : Lo w w2 P v l o os n nt :=
  ⟨h.line.pure hp, h.ord.pure hp, h.sl.only hp (fun _ _ f => f), h.apart, fun k hk => ⟨(h.nap k hk).1, (h.nap k hk).2.1, Nat.lt_of_lt_of_le (h.nap k hk).2.2 hp.size⟩, h.new, h.gap, Pure.then h.pure hp⟩
theorem Lo.line' (h : Lo w wr P v l o os n nt) (hl : LineOf w2 P v2 l2) (ho : Only (LineS P v) wr w2) (hat : v2.ownBlock = v.ownBlock ∨ ∃ q, v2.ownBlock = some q ∧ wr.heap.size ≤ q) (hg : ∀ e ∈ l2, (∃ e0 ∈ l, e0.gv = e.gv) ∨ ∀ q, e.gv.ownBlock = some q → wr.heap.size ≤ q) : Lo w w2 P v2 l2 o os n nt := by
  have key : ∀ k, LineS P v2 k → LineS P v k ∨ wr.heap.size ≤ k := fun k hk => by
    rcases hk with hk | hk
    · exact .inl (.inl hk)
    · rcases hat with hat | ⟨q, hat, hq⟩
      · exact .inl (.inr (hat ▸ hk))
      · rw [hat] at hk
        injection hk with hk
        exact .inr (by omega)
  refine ⟨hl, h.ord.only ho h.apart, h.sl.only ho (fun k hk => (h.nap k hk).1), fun k hk hs => ?_, fun k hk => ⟨fun hs => ?_, (h.nap k hk).2.1, Nat.lt_of_lt_of_le (h.nap k hk).2.2 ho.size⟩, fun k hk => ?_, fun e he q hq => ?_, h.pure.trans ho (fun i hi e => by have := h.new i e; omega)⟩
  · rcases key k hs with hs | hs
    · exact h.apart k hk hs
    · have := (h.ord.lt k hk).2
      omega
  · rcases key k hs with hs | hs
    · exact (h.nap k hk).1 hs
    · have := (h.nap k hk).2.2
      omega
  · rcases key k hk with hs | hs
    · exact h.new k hs
    · have := h.pure.size
      omega
  · rcases hg e he with ⟨e0, he0, h0⟩ | hg
    · exact h.gap e0 he0 q (h0 ▸ hq)
    · intro e'
      have := (h.ord.lt q e').2
      have := hg q hq
      omega
theorem Lo.ord' (h : Lo w wr P v l o os n nt) (ht : TailI w2 w.heap.size o2 os2) (ho : Only (fun k => o.ownBlock = some k) wr w2) (hat : ∀ k, o2.ownBlock = some k → o.ownBlock = some k ∨ wr.heap.size ≤ k) : Lo w w2 P v l o2 os2 n nt := by
  refine ⟨h.line.only ho (fun k hk e => h.apart k e hk) h.gap, ht, h.sl.only ho (fun k hk => (h.nap k hk).2.1), fun k hk hs => ?_, fun k hk => ⟨(h.nap k hk).1, fun e => ?_, Nat.lt_of_lt_of_le (h.nap k hk).2.2 ho.size⟩, h.new, fun e he q hq e' => ?_, h.pure.trans ho (fun i hi e => by have := (h.ord.lt i e).1; omega)⟩
  · rcases hat k hk with hk | hk
    · exact h.apart k hk hs
    · have := h.line.lt k hs
      omega
  · rcases hat k e with e | e
    · exact (h.nap k hk).2.1 e
    · have := (h.nap k hk).2.2
      omega
  · rcases hat q e' with e' | e'
    · exact h.gap e he q hq e'
    · have := ((h.line.got e he).2 q hq).2
      omega
theorem Lo.note' (h : Lo w wr P v l o os n nt) (hp : Pure wr w2) (hs : SlI w2 w2.heap.size n2 nt2) (hn : ∀ k, n2.ownBlock = some k → wr.heap.size ≤ k ∧ k < w2.heap.size) : Lo w w2 P v l o os n2 nt2 := by
  have h2 := h.keep hp
  refine ⟨h2.line, h2.ord, hs, h2.apart, fun k hk => ⟨fun hl => ?_, fun e => ?_, (hn k hk).2⟩, h2.new, h2.gap, h2.pure⟩
  · have := h.line.lt k hl
    have := (hn k hk).1
    omega
  · have := (h.ord.lt k e).2
    have := (hn k hk).1
    omega
end

/-- Beside it the row of what was counted before. -/
structure Be (w wr : World) (P : Nat) (v : Value) (l : List En) (o : Value) (os : List Int) (n : Value) (nt : List Int) (b : Value) (bs : List Int) : Prop where
  lo : Lo w wr P v l o os n nt
  row : TailI wr w.heap.size b bs
  ba : ∀ q, b.ownBlock = some q → ¬ LineS P v q ∧ o.ownBlock ≠ some q ∧ n.ownBlock ≠ some q ∧ ∀ e ∈ l, e.gv.ownBlock ≠ some q
section
variable {w wr w2 : World} {P : Nat} {v o n b b2 : Value} {l l2 : List En} {os nt bs bs2 : List Int}
theorem Be.keep (h : Be w wr P v l o os n nt b bs) (hp : Pure wr w2) : Be w w2 P v l o os n nt b bs := ⟨h.lo.keep hp, h.row.pure hp, h.ba⟩
theorem Be.app (h : Be w wr P v l o os n nt b bs) (ht : TailI w2 w.heap.size b2 bs2) (ho : Only (fun k => b.ownBlock = some k) wr w2) (hat : ∀ k, b2.ownBlock = some k → b.ownBlock = some k ∨ wr.heap.size ≤ k) : Be w w2 P v l o os n nt b2 bs2 := by
  have hl := h.lo
  refine ⟨⟨hl.line.only ho (fun k hk e => (h.ba k e).1 hk) (fun e he q hq e' => (h.ba q e').2.2.2 e he hq), hl.ord.only ho (fun k hk e => (h.ba k e).2.1 hk), hl.sl.only ho (fun k hk e => (h.ba k e).2.2.1 hk), hl.apart,
    fun k hk => ⟨(hl.nap k hk).1, (hl.nap k hk).2.1, Nat.lt_of_lt_of_le (hl.nap k hk).2.2 ho.size⟩, hl.new, hl.gap, hl.pure.trans ho (fun i hi e => by have := (h.row.lt i e).1; omega)⟩, ht, fun q hq => ?_⟩
  rcases hat q hq with hq | hq
  · exact h.ba q hq
  · exact ⟨fun e => by have := hl.line.lt q e; omega, fun e => by have := (hl.ord.lt q e).2; omega, fun e => by have := (hl.nap q e).2.2; omega, fun e he e' => by have := ((hl.line.got e he).2 q e').2; omega⟩
theorem Be.ended (h : Be w wr P v l o os n nt b bs) (hl : LineOf w2 P v (l.map tick)) (ho : Only (LineS P v) wr w2) : Be w w2 P v (l.map tick) o os n nt b bs :=
  ⟨h.lo.line' hl ho (.inl rfl) (fun e he => by
    obtain ⟨x, hx, rfl⟩ := List.mem_map.1 he
    exact .inl ⟨x, hx, rfl⟩), h.row.only ho (fun k hk => (h.ba k hk).1), fun q hq => ⟨(h.ba q hq).1, (h.ba q hq).2.1, (h.ba q hq).2.2.1, fun e he => by
      obtain ⟨x, hx, rfl⟩ := List.mem_map.1 he
      exact (h.ba q hq).2.2.2 x hx⟩⟩
end
theorem wrap_sum (x y : Int) (h0 : 0 ≤ x) (h1 : x ≤ 1000) (h2 : 0 ≤ y) (h3 : y ≤ 1) : IntKind.i64.wrap (x + y) = x + y := IntWalk.i64_in _ (by omega)

theorem Lo.start (w wr : World) (P : Nat) (hl : LineOf wr P (.slice none 0 0) []) (hp : Pure w wr) (hP : w.heap.size ≤ P) : Lo w wr P (.slice none 0 0) [] (.slice none 0 0) [] (.slice none 0 0) [] :=
  ⟨hl, TailI.nil _ _, SlI.nil _ _, fun k hk => by simp [Value.ownBlock] at hk, fun k hk => by simp [Value.ownBlock] at hk, fun k hk => by
    rcases hk with rfl | hk
    · exact hP
    · simp [Value.ownBlock] at hk, fun e he => by simp at he, hp⟩

set_option maxRecDepth 100000 in
theorem out (v : Value) (l : List Op10) (w : World) (hl : OpsR w w.heap.size v l) (h : fewB l = false) :
    Calls Try.prog 4 #[v] w fun e w' => e = .returned (.bool true) ∧ Pure w w' := by
  have HL := Lib.hid hl
  have HF := Lib.hid h
  obtain ⟨⟨A, c, rfl, _⟩, _⟩ := hl
  clear h
  go_enter Try.func4, Try.ntmps4
  go_wp2_with fail
  refine (first_look _).mono ?_
  rintro e w1 ⟨rfl, hp1⟩
  have P1 := Lib.hid hp1
  clear hp1
  go_wp2_with fail
  refine (new_any w1).mono ?_
  rintro e w2 ⟨rfl, rfl⟩
  have L2 := Lib.hid (HL.out.pure (P1.out.alloc (.cells #[.slice none 0 0] 50)))
  go_wp2_with fail
  refine (few_any _ l _ L2.out).mono ?_
  rw [HF.out]
  rintro e w2 ⟨rfl, rfl⟩
  go_wp2_with fail
  refine (first_look _).mono ?_
  rintro e w2 ⟨rfl, hp2⟩
  have P2 := Lib.hid hp2
  clear hp2
  go_wp2_with fail
  go_ret
  exact ⟨rfl, Pure.then (P1.out.alloc _) P2.out⟩

set_option maxRecDepth 100000 in
set_option maxHeartbeats 16000000 in
theorem main (v : Value) (l : List Op10) (w : World) (hl : OpsR w w.heap.size v l) (h : fewB l = true) :
    Calls Try.prog 4 #[v] w fun e w' => e = .returned (.bool true) ∧ Pure w w' := by
  obtain ⟨i0, hi0, hz0, hz1, hz2⟩ := info_parts int_info
  have HL := Lib.hid hl
  have HF := Lib.hid h
  obtain ⟨hl200, hsm⟩ := fewB_yes h
  have HSM := Lib.hid hsm
  obtain ⟨⟨A, c, rfl, hlc, hcm, hcells⟩, hops⟩ := hl
  have HC := Lib.hid hcells
  have HO := Lib.hid hops
  clear h hcells hops hsm
  go_enter Try.func4, Try.ntmps4
  go_wp2_with fail
  refine (first_look _).mono ?_
  rintro e w1 ⟨rfl, hp1⟩
  have P1 := Lib.hid hp1
  clear hp1
  go_wp2_with fail
  refine (new_any w1).mono ?_
  rintro e w2 ⟨rfl, rfl⟩
  have L2 := Lib.hid (HL.out.pure (P1.out.alloc (.cells #[.slice none 0 0] 50)))
  have D0 := Lib.hid (Lo.start w (w1.alloc (.cells #[.slice none 0 0] 50)) w1.heap.size (line_new w1) (P1.out.alloc _) P1.out.size)
  generalize w1.alloc (.cells #[.slice none 0 0] 50) = W2 at *
  generalize w1.heap.size = P at *
  go_wp2_with fail
  refine (few_any _ l _ L2.out).mono ?_
  rw [HF.out]
  rintro e w2 ⟨rfl, rfl⟩
  go_wp2_with fail
  go_loopw [4, 5, 6] (fun o n i wr => ∃ (k : Nat) (v : Value) (L : List En) (os nt : List Int), k ≤ l.length ∧ i = .int .i64 k ∧ Lo w wr P v L o os n nt ∧ PI L os nt k) (fun _ _ i _ => l.length - (intOf i).toNat)
  case atStart => exact ⟨0, _, [], [], [], Nat.zero_le _, by first | rfl | simp, D0.out, ⟨rfl, by simp, fun e he => by simp at he, fun t ht => by simp at ht, fun e he => by simp at he, Nat.le_refl _⟩⟩
  case round =>
    obtain ⟨k, v, L, os, nt, hk, rfl, hD, hI⟩ := hrel
    have HD := Lib.hid hD
    have HI := Lib.hid hI
    have hos := hI.le
    have hL := hI.len
    obtain ⟨AO, cO, eo, hO1, hO2⟩ := hD.ord.form
    subst eo
    obtain ⟨AN, cN, en, _, _⟩ := hD.sl.len
    subst en
    clear hD hI
    by_cases hlt : k < l.length
    · obtain ⟨b, off, hA, hb, hc⟩ := HC.out (by omega)
      subst hA
      obtain ⟨q, hq⟩ : ∃ q, l[k]? = some q := ⟨l[k], List.getElem?_eq_getElem hlt⟩
      obtain ⟨d0, d1, d2, d3, d4, d5⟩ := hc k q hq
      obtain ⟨hsl, hr0, hr1⟩ := HO.out q (List.mem_of_getElem? hq)
      have hxl := HSM.out q (List.mem_of_getElem? hq)
      obtain ⟨AX, cX, hv, _, _⟩ := hsl.len
      rw [hv] at d5 hsl
      have HSL := Lib.hid (fun (w' : World) (hp : Pure w w') => hsl.only hp (fun _ _ f => f))
      have e0 := HD.out.pure.keep d0
      have e1 := HD.out.pure.keep d1
      have e2 := HD.out.pure.keep d2
      have e3 := HD.out.pure.keep d3
      have e4 := HD.out.pure.keep d4
      have e5 := HD.out.pure.keep d5
      have hlt' : (k : Int) < (l.length : Int) := by omega
      clear d0 d1 d2 d3 d4 d5 hc hv hsl hq
      go_upto_block 2 with fail
      have D4 := Lib.hid (HD.out.keep ((Only.refl _ _).alloc (.cells #[.int .i64 q.kind, .int .i64 q.thread, .int .i64 q.frags, .int .i64 q.spine, .int .i64 q.at_, .slice AX q.xs.length cX] 37)))
      have hy := heap_alloc_new wr (.cells #[.int .i64 q.kind, .int .i64 q.thread, .int .i64 q.frags, .int .i64 q.spine, .int .i64 q.at_, .slice AX q.xs.length cX] 37)
      have HYL := Lib.hid (show ¬ LineS P v wr.heap.size from fun e => by have := HD.out.line.lt _ e; omega)
      have P4 := Lib.hid (HD.out.pure.alloc (.cells #[.int .i64 q.kind, .int .i64 q.thread, .int .i64 q.frags, .int .i64 q.spine, .int .i64 q.at_, .slice AX q.xs.length cX] 37))
      generalize wr.alloc (.cells #[.int .i64 q.kind, .int .i64 q.thread, .int .i64 q.frags, .int .i64 q.spine, .int .i64 q.at_, .slice AX q.xs.length cX] 37) = W4 at *
      generalize wr.heap.size = Y at *
      have y0 : W4.cell? ⟨Y, 0, none⟩ = some (.int .i64 q.kind) := by rw [cell_of_row _ _ _ _ _ _ hy]; rfl
      have y1 : W4.cell? ⟨Y, 1, none⟩ = some (.int .i64 q.thread) := by rw [cell_of_row _ _ _ _ _ _ hy]; rfl
      have y2 : W4.cell? ⟨Y, 2, none⟩ = some (.int .i64 q.frags) := by rw [cell_of_row _ _ _ _ _ _ hy]; rfl
      have y4 : W4.cell? ⟨Y, 4, none⟩ = some (.int .i64 q.at_) := by rw [cell_of_row _ _ _ _ _ _ hy]; rfl
      have y5 : W4.cell? ⟨Y, 5, none⟩ = some (.slice AX q.xs.length cX) := by rw [cell_of_row _ _ _ _ _ _ hy]; rfl
      have HYlt := Lib.hid (show Y < W4.heap.size from (Array.getElem?_eq_some_iff.1 hy).1)
      clear hy e0 e1 e2 e3 e4 e5
      go_cut [4, 5] (fun s4 s5 wx => ∃ (v2 : Value) (L2 : List En) (os2 nt2 : List Int), Lo w wx P v2 L2 s4 os2 s5 nt2 ∧ PI L2 os2 nt2 (k + 1))
      case first =>
        rcases (by omega : q.kind = 0 ∨ q.kind = 1 ∨ q.kind = 2 ∨ q.kind = 4 ∨ q.kind = 5 ∨ (q.kind ≠ 0 ∧ q.kind ≠ 1 ∧ q.kind ≠ 2 ∧ q.kind ≠ 4 ∧ q.kind ≠ 5)) with hq | hq | hq | hq | hq | hq
        · have hq0 := hq
          have z0 : (q.kind == 0) = true := by rw [hq]; rfl
          clear hq0 hq y4 y5
          as_aux_lemma =>
            by_cases hin : q.thread ∈ L.map En.thread
            · have HX := Lib.hid (ix_old hin)
              clear hin
              go_wp2_with fail
              refine (add_no P v L ⟨q.thread, q.frags, 0, 0, 0, 0, .slice none 0 0, [], false⟩ none 0 0 _ D4.out.line HX.out).mono ?_
              rintro e w5 ⟨rfl, hp5⟩
              have D5 := Lib.hid (D4.out.keep hp5)
              clear hp5
              go_wp2_with fail
              go_meet
              exact ⟨v, L, os, nt, D5.out, HI.out.more⟩
            · have HX := Lib.hid hin
              clear hin
              go_wp2_with fail
              refine (add_yes P v L ⟨q.thread, q.frags, 0, 0, 0, 0, .slice none 0 0, [], false⟩ none 0 0 _ D4.out.line (ix_new HX.out) (by omega)).mono ?_
              rintro e w5 ⟨v5, rfl, hl5, ho5, hat5⟩
              have D5 := Lib.hid (D4.out.line' hl5 ho5 hat5 (fun e he => by
                rcases List.mem_append.1 he with he | he
                · exact .inl ⟨e, he, rfl⟩
                · simp at he
                  subst he
                  exact .inr (fun q hq => by simp [fresh, Value.ownBlock] at hq)))
              have y5 : w5.cell? ⟨Y, 1, none⟩ = some (.int .i64 q.thread) := (ho5.cell (p := ⟨Y, 1, none⟩) HYlt.out HYL.out).trans y1
              have hsz : w.heap.size ≤ (w5.alloc (.cells #[.int .i64 q.thread] 3)).heap.size := Nat.le_trans D5.out.pure.size (by simp)
              have cx : (w5.alloc (.cells #[.int .i64 q.thread] 3)).cell? ⟨w5.heap.size, 0, none⟩ = some (.int .i64 q.thread) := by rw [cell_of_row _ w5.heap.size _ _ _ (0, 0) (heap_alloc_new w5 _)]; rfl
              have CX := Lib.hid cx
              clear hl5 ho5 hat5 y1 cx
              go_wp2_with (at_builtin; refine wpList_tail _ rfl (.tmp 57) (.tmp 60) _ rfl 3 i0 _ Try.underlying22 hi0 hz0 hz1 hz2 rfl (.slice AO os.length cO) rfl (D5.out.ord.pure ((Only.refl _ w5).alloc _)) ⟨w5.heap.size, 0, none⟩ 1 q.thread rfl CX.out ⟨hr0, hr1⟩ (by omega) hsz ?_; intro v6 w6 ht6 ho6 hat6; obtain ⟨A6, c6, e6, _, _⟩ := ht6.form; simp only [List.length_append, List.length_singleton] at e6; subst e6; have T6 := Lib.hid ht6; have O6 := Lib.hid ho6; have AT6 := Lib.hid hat6; clear ht6 ho6 hat6)
              go_meet
              exact ⟨v5, _, _, nt, (D5.out.keep ((Only.refl _ w5).alloc _)).ord' (os2 := os ++ [q.thread]) T6.out O6.out AT6.out, HI.out.add _ HX.out⟩
        · have hq0 := hq
          have z0 : (q.kind == 0) = false := by rw [hq]; rfl
          have z1 : (q.kind == 1) = true := by rw [hq]; rfl
          have zk : ((1 : Int) != q.kind) = false := by rw [hq]; rfl
          clear hq0 hq
          as_aux_lemma =>
            obtain hos0 | ⟨t, ts, hos0⟩ : os = [] ∨ ∃ t ts, os = t :: ts := by
              cases os with
              | nil => exact .inl rfl
              | cons t ts => exact .inr ⟨t, ts, rfl⟩
            · have HW := Lib.hid (show ws L = [] from HI.out.eq.trans hos0)
              have x0 : decide (0 < os.length) = false := decide_eq_false (by simp [hos0])
              clear hos0
              go_wp2_with fail
              refine (grant_no P v L _ _ _ q.at_ _ D4.out.line (ws_none HW.out)).mono ?_
              rintro e w5 ⟨rfl, hp5⟩
              have D5 := Lib.hid (D4.out.keep hp5)
              clear hp5
              go_wp2_with fail
              go_meet
              exact ⟨v, L, os, nt, D5.out, HI.out.more⟩
            · have HW := Lib.hid (show ws L = t :: ts from HI.out.eq.trans hos0)
              have HO0 := Lib.hid hos0
              obtain ⟨j, e, he, hw, hth, hj, hset⟩ := ws_first HW.out
              have HE := Lib.hid he
              have HJ := Lib.hid hj
              have HTH := Lib.hid hth
              have HSET := Lib.hid hset
              have hpos : 0 < os.length := by rw [hos0]; simp
              have x0 : decide (0 < os.length) = true := decide_eq_true hpos
              have x1 : (0 : Int) < ((os.length : Nat) : Int) := by omega
              have x2 : (1 : Int) ≤ ((os.length : Nat) : Int) := by omega
              have hj' := (List.getElem?_eq_some_iff.1 he).1
              clear he hw hth hj hset hos0
              go_wp2_with fail
              refine (grant_yes P v L j e (.slice AX q.xs.length cX) q.xs q.at_ _ D4.out.line HE.out HJ.out (HSL.out _ P4.out) (by omega)).mono ?_
              rintro e5 w5 ⟨gv, rfl, hl5, ho5, hgv5⟩
              have D5 := Lib.hid (D4.out.line' hl5 ho5 (.inl rfl) (fun x hx => by
                rcases List.mem_or_eq_of_mem_set hx with hx | rfl
                · exact .inl ⟨x, hx, rfl⟩
                · exact .inr hgv5))
              have PD := Lib.hid ((HO0.out ▸ HI.out).done (e' := (granted e gv q.xs q.at_)) HE.out (HSET.out _ rfl) rfl rfl rfl)
              have y0w : w5.cell? ⟨Y, 0, none⟩ = some (.int .i64 q.kind) := (ho5.cell (p := ⟨Y, 0, none⟩) HYlt.out HYL.out).trans y0
              have y4w : w5.cell? ⟨Y, 4, none⟩ = some (.int .i64 q.at_) := (ho5.cell (p := ⟨Y, 4, none⟩) HYlt.out HYL.out).trans y4
              have y5w : w5.cell? ⟨Y, 5, none⟩ = some (.slice AX q.xs.length cX) := (ho5.cell (p := ⟨Y, 5, none⟩) HYlt.out HYL.out).trans y5
              obtain ⟨gO, offO, hA, hcO, _⟩ := (by obtain ⟨A', c', e', h1, _, _, _, h5⟩ := D5.out.ord; injection e' with e1 e2 e3; subst e1 e3; exact h5 (by omega) : ∃ g off, AO = some ⟨g, off, none⟩ ∧ (∀ j, j < os.length → w5.cell? ⟨g, off + j, none⟩ = some (.int .i64 (os.getD j 0))) ∧ ∀ j, j < cO → (w5.cell? ⟨g, off + j, none⟩).isSome = true ∧ w5.frozen? ⟨g, off + j, none⟩ = false)
              subst hA
              have c0 : w5.cell? ⟨gO, offO, none⟩ = some (.int .i64 t) := by have := hcO 0 hpos; rw [HO0.out] at this; exact this
              have HL5 := Lib.hid hl5
              clear hl5 ho5 hgv5 y0 y1 y2 y4 y5 hcO
              go_wp2_with fail
              refine (lineOf_in P v _ j (granted e gv q.xs q.at_) t _ HL5.out (List.getElem?_set_self hj') (by have := ix_thread PD.out.nd (List.getElem?_set_self hj'); rwa [show ((granted e gv q.xs q.at_) : En).thread = t from HTH.out] at this)).mono ?_
              rintro e7 w7 ⟨A7, c7, rfl, hp7, hs7, _⟩
              dsimp only [granted, reqV]
              have HS7 := Lib.hid hs7
              have y0v := Pure.keep (hp7.alloc (.cells #[.int .i64 e.thread, .int .i64 e.frags, .int .i64 e.spine, .int .i64 1, .int .i64 e.cycles, .int .i64 q.at_, .slice A7 q.xs.length c7] 28)) y0w
              have y4v := Pure.keep (hp7.alloc (.cells #[.int .i64 e.thread, .int .i64 e.frags, .int .i64 e.spine, .int .i64 1, .int .i64 e.cycles, .int .i64 q.at_, .slice A7 q.xs.length c7] 28)) y4w
              have y5v := Pure.keep (hp7.alloc (.cells #[.int .i64 e.thread, .int .i64 e.frags, .int .i64 e.spine, .int .i64 1, .int .i64 e.cycles, .int .i64 q.at_, .slice A7 q.xs.length c7] 28)) y5w
              have D8 := Lib.hid (D5.out.keep (hp7.alloc (.cells #[.int .i64 e.thread, .int .i64 e.frags, .int .i64 e.spine, .int .i64 1, .int .i64 e.cycles, .int .i64 q.at_, .slice A7 q.xs.length c7] 28)))
              clear hp7 hs7 y0w y4w y5w c0
              obtain ⟨A9, hA9⟩ : ∃ A9, (if cO = 1 then some (⟨gO, offO, none⟩ : Addr) else some ⟨gO, offO + 1, none⟩) = A9 := ⟨_, rfl⟩
              go_wp2_with fail
              refine (ints_any _ _ q.xs q.xs _ (HS7.out.only ((Only.refl (fun _ => False) w7).alloc (.cells #[.int .i64 e.thread, .int .i64 e.frags, .int .i64 e.spine, .int .i64 1, .int .i64 e.cycles, .int .i64 q.at_, .slice A7 q.xs.length c7] 28)) (fun _ _ f => f)) (HSL.out _ D8.out.pure)).mono ?_
              rw [sameI_self]
              rintro e9 w9 ⟨rfl, d9, rfl⟩
              have D9 := Lib.hid (D8.out.keep ((Only.refl _ _).drewN d9))
              go_wp2_with fail
              go_meet
              refine ⟨v, _, ts, nt, D9.out.ord' (os2 := ts) ?_ (Only.refl _ _) (fun q hq => .inl ?_), PD.out⟩
              · have h := D9.out.ord
                rw [← hA9]
                obtain ⟨n, hn⟩ : ∃ n, n = os.length := ⟨_, rfl⟩
                rw [← hn] at h ⊢
                rw [HO0.out] at h
                exact h.tail gO offO rfl
              · rw [← hA9] at hq
                split at hq <;> exact hq
        · have hq0 := hq
          have z0 : (q.kind == 0) = false := by rw [hq]; rfl
          have z1 : (q.kind == 1) = false := by rw [hq]; rfl
          have z2 : (q.kind == 2) = true := by rw [hq]; rfl
          have zk : ((2 : Int) != q.kind) = false := by rw [hq]; rfl
          clear hq0 hq
          as_aux_lemma =>
            obtain hos0 | ⟨t, ts, hos0⟩ : os = [] ∨ ∃ t ts, os = t :: ts := by
              cases os with
              | nil => exact .inl rfl
              | cons t ts => exact .inr ⟨t, ts, rfl⟩
            · have HW := Lib.hid (show ws L = [] from HI.out.eq.trans hos0)
              have x0 : decide (0 < os.length) = false := decide_eq_false (by simp [hos0])
              clear hos0
              go_wp2_with fail
              refine (fail_no P v L _ D4.out.line (ws_none HW.out)).mono ?_
              rintro e w5 ⟨rfl, hp5⟩
              have D5 := Lib.hid (D4.out.keep hp5)
              clear hp5
              go_wp2_with fail
              go_meet
              exact ⟨v, L, os, nt, D5.out, HI.out.more⟩
            · have HW := Lib.hid (show ws L = t :: ts from HI.out.eq.trans hos0)
              have HO0 := Lib.hid hos0
              obtain ⟨j, e, he, hw, hth, hj, hset⟩ := ws_first HW.out
              have HE := Lib.hid he
              have HJ := Lib.hid hj
              have HTH := Lib.hid hth
              have HSET := Lib.hid hset
              have hpos : 0 < os.length := by rw [hos0]; simp
              have x0 : decide (0 < os.length) = true := decide_eq_true hpos
              have x1 : (0 : Int) < ((os.length : Nat) : Int) := by omega
              have x2 : (1 : Int) ≤ ((os.length : Nat) : Int) := by omega
              have hj' := (List.getElem?_eq_some_iff.1 he).1
              clear he hw hth hj hset hos0
              go_wp2_with fail
              refine (fail_yes P v L j e _ D4.out.line HE.out HJ.out).mono ?_
              rintro e5 w5 ⟨rfl, hl5, ho5⟩
              have D5 := Lib.hid (D4.out.line' hl5 ho5 (.inl rfl) (fun x hx => by
                rcases List.mem_or_eq_of_mem_set hx with hx | rfl
                · exact .inl ⟨x, hx, rfl⟩
                · exact .inl ⟨e, List.mem_of_getElem? HE.out, rfl⟩))
              have PD := Lib.hid ((HO0.out ▸ HI.out).done (e' := (failed e)) HE.out (HSET.out _ rfl) rfl rfl rfl)
              have y0w : w5.cell? ⟨Y, 0, none⟩ = some (.int .i64 q.kind) := (ho5.cell (p := ⟨Y, 0, none⟩) HYlt.out HYL.out).trans y0
              have y4w : w5.cell? ⟨Y, 4, none⟩ = some (.int .i64 q.at_) := (ho5.cell (p := ⟨Y, 4, none⟩) HYlt.out HYL.out).trans y4
              have y5w : w5.cell? ⟨Y, 5, none⟩ = some (.slice AX q.xs.length cX) := (ho5.cell (p := ⟨Y, 5, none⟩) HYlt.out HYL.out).trans y5
              obtain ⟨gO, offO, hA, hcO, _⟩ := (by obtain ⟨A', c', e', h1, _, _, _, h5⟩ := D5.out.ord; injection e' with e1 e2 e3; subst e1 e3; exact h5 (by omega) : ∃ g off, AO = some ⟨g, off, none⟩ ∧ (∀ j, j < os.length → w5.cell? ⟨g, off + j, none⟩ = some (.int .i64 (os.getD j 0))) ∧ ∀ j, j < cO → (w5.cell? ⟨g, off + j, none⟩).isSome = true ∧ w5.frozen? ⟨g, off + j, none⟩ = false)
              subst hA
              have c0 : w5.cell? ⟨gO, offO, none⟩ = some (.int .i64 t) := by have := hcO 0 hpos; rw [HO0.out] at this; exact this
              have HL5 := Lib.hid hl5
              clear hl5 ho5 y0 y1 y2 y4 y5 hcO
              go_wp2_with fail
              refine (lineOf_in P v _ j (failed e) t _ HL5.out (List.getElem?_set_self hj') (by have := ix_thread PD.out.nd (List.getElem?_set_self hj'); rwa [show ((failed e) : En).thread = t from HTH.out] at this)).mono ?_
              rintro e7 w7 ⟨A7, c7, rfl, hp7, hs7, _⟩
              dsimp only [failed, reqV]
              have HS7 := Lib.hid hs7
              have y0v := Pure.keep (hp7.alloc (.cells #[.int .i64 e.thread, .int .i64 e.frags, .int .i64 e.spine, .int .i64 2, .int .i64 e.cycles, .int .i64 e.at_, .slice A7 e.got.length c7] 28)) y0w
              have y4v := Pure.keep (hp7.alloc (.cells #[.int .i64 e.thread, .int .i64 e.frags, .int .i64 e.spine, .int .i64 2, .int .i64 e.cycles, .int .i64 e.at_, .slice A7 e.got.length c7] 28)) y4w
              have y5v := Pure.keep (hp7.alloc (.cells #[.int .i64 e.thread, .int .i64 e.frags, .int .i64 e.spine, .int .i64 2, .int .i64 e.cycles, .int .i64 e.at_, .slice A7 e.got.length c7] 28)) y5w
              have D8 := Lib.hid (D5.out.keep (hp7.alloc (.cells #[.int .i64 e.thread, .int .i64 e.frags, .int .i64 e.spine, .int .i64 2, .int .i64 e.cycles, .int .i64 e.at_, .slice A7 e.got.length c7] 28)))
              clear hp7 hs7 y0w y4w y5w c0
              obtain ⟨A9, hA9⟩ : ∃ A9, (if cO = 1 then some (⟨gO, offO, none⟩ : Addr) else some ⟨gO, offO + 1, none⟩) = A9 := ⟨_, rfl⟩
              go_wp2_with fail
              have D9 := D8
              go_meet
              refine ⟨v, _, ts, nt, D9.out.ord' (os2 := ts) ?_ (Only.refl _ _) (fun q hq => .inl ?_), PD.out⟩
              · have h := D9.out.ord
                rw [← hA9]
                obtain ⟨n, hn⟩ : ∃ n, n = os.length := ⟨_, rfl⟩
                rw [← hn] at h ⊢
                rw [HO0.out] at h
                exact h.tail gO offO rfl
              · rw [← hA9] at hq
                split at hq <;> exact hq
        · have hq0 := hq
          have z0 : (q.kind == 0) = false := by rw [hq]; rfl
          have z1 : (q.kind == 1) = false := by rw [hq]; rfl
          have z2 : (q.kind == 2) = false := by rw [hq]; rfl
          have z4 : (q.kind == 4) = true := by rw [hq]; rfl
          clear hq0 hq y1 y2 y4 y5
          as_aux_lemma =>
            go_wp2_with fail
            refine (begin_any P v L _ D4.out.line).mono ?_
            rintro e w5 ⟨rfl, hl5, ho5⟩
            have D5 := Lib.hid (D4.out.line' hl5 ho5 (.inl rfl) (fun e he => by
              obtain ⟨x, hx, rfl⟩ := List.mem_map.1 he
              exact .inl ⟨x, hx, rfl⟩))
            clear hl5 ho5
            go_wp2_with fail
            refine (copy_any _ os _ D5.out.ord.sl (by omega)).mono ?_
            rintro e w6 ⟨v6, rfl, hp6, ho6⟩
            obtain ⟨A6, c6, rfl⟩ := own_form ho6
            have HP6 := Lib.hid hp6
            have HO6 := Lib.hid ho6
            clear hp6 ho6
            go_wp2_with fail
            go_meet
            exact ⟨v, L.map note, os, os, D5.out.note' HP6.out (SlI.of_own HO6.out D5.out.ord.rng) (fun k hk => HO6.out.lt k hk), HI.out.begun⟩
        · have hq0 := hq
          have z0 : (q.kind == 0) = false := by rw [hq]; rfl
          have z1 : (q.kind == 1) = false := by rw [hq]; rfl
          have z2 : (q.kind == 2) = false := by rw [hq]; rfl
          have z4 : (q.kind == 4) = false := by rw [hq]; rfl
          have z5 : (q.kind == 5) = true := by rw [hq]; rfl
          clear hq0 hq y1 y2 y4 y5
          as_aux_lemma =>
            go_wp2_with fail
            clear z0 z1 z2 z4 z5
            go_loopw [11, 12] (fun s11 i wr2 => ∃ (m : Nat), m ≤ os.length ∧ i = .int .i64 m ∧ Be w wr2 P v L (.slice AO os.length cO) os (.slice AN nt.length cN) nt s11 ((os.take m).map (cy L))) (fun _ i _ => os.length - (intOf i).toNat)
            case atStart => exact ⟨0, Nat.zero_le _, by first | rfl | simp, D4.out, by simpa using TailI.nil _ _, fun q hq => by simp [Value.ownBlock] at hq⟩
            case round =>
              obtain ⟨m, hm, rfl, hB⟩ := hrel
              have HB := Lib.hid hB
              obtain ⟨AB, cB, eB, _, _⟩ := hB.row.form
              rw [List.length_map, List.length_take, Nat.min_eq_left hm] at eB
              subst eB
              clear hB
              by_cases hkt : m < os.length
              · obtain ⟨t, ht⟩ : ∃ t, os[m]? = some t := ⟨_, List.getElem?_eq_getElem hkt⟩
                obtain ⟨j, e, he, hw, hth⟩ := ws_mem (l := L) (t := t) (by rw [HI.out.eq]; exact List.mem_of_getElem? ht)
                have HE := Lib.hid he
                have HTH := Lib.hid hth
                have HT := Lib.hid ht
                obtain ⟨hc0, hc1⟩ := HI.out.cyc e (List.mem_of_getElem? he)
                obtain ⟨_, _, hv, _, _, _, hcells⟩ := HB.out.lo.ord.sl
                obtain ⟨gO, offO, hA, _, hcO⟩ := hcells (by omega)
                injection hv with hv1 hv2 hv3
                subst hv1 hv3 hA
                have c0 : wr.cell? ⟨gO, offO + m, none⟩ = some (.int .i64 t) := by have := hcO m hkt; rw [List.getD_eq_getElem?_getD, HT.out] at this; exact this
                have hkt' : (m : Int) < ((os.length : Nat) : Int) := by omega
                clear he hw hth ht hcO hcells hv2
                go_wp2_with fail
                refine (lineOf_in P v L j e t _ HB.out.lo.line HE.out (by have := ix_thread HI.out.nd HE.out; rwa [HTH.out] at this)).mono ?_
                rintro e7 w7 ⟨A7, c7, rfl, hp7, _, _⟩
                have B8 := Lib.hid (HB.out.keep (hp7.alloc (.cells #[.int .i64 e.thread, .int .i64 e.frags, .int .i64 e.spine, .int .i64 e.state, .int .i64 e.cycles, .int .i64 e.at_, .slice A7 e.got.length c7] 28)))
                clear hp7 c0
                go_upto_region 37 with fail
                have c4 : (w7.alloc (.cells #[.int .i64 e.thread, .int .i64 e.frags, .int .i64 e.spine, .int .i64 e.state, .int .i64 e.cycles, .int .i64 e.at_, .slice A7 e.got.length c7] 28)).cell? ⟨w7.heap.size, 4, none⟩ = some (.int .i64 e.cycles) := by rw [cell_of_row _ w7.heap.size _ _ _ (0, 0) (heap_alloc_new w7 _)]; rfl
                generalize (w7.alloc (.cells #[.int .i64 e.thread, .int .i64 e.frags, .int .i64 e.spine, .int .i64 e.state, .int .i64 e.cycles, .int .i64 e.at_, .slice A7 e.got.length c7] 28)) = W8 at *
                have hsz : w.heap.size ≤ (W8.alloc (.cells #[.int .i64 e.cycles] 3)).heap.size := Nat.le_trans B8.out.lo.pure.size (by simp)
                have cx : (W8.alloc (.cells #[.int .i64 e.cycles] 3)).cell? ⟨W8.heap.size, 0, none⟩ = some (.int .i64 e.cycles) := by rw [cell_of_row _ W8.heap.size _ _ _ (0, 0) (heap_alloc_new W8 _)]; rfl
                have CX := Lib.hid cx
                have HLB := Lib.hid (show (((os.take m).map (cy L)).length = m) from by rw [List.length_map, List.length_take]; omega)
                clear cx
                go_wp2_with (at_builtin; refine wpList_tail _ rfl (.tmp 144) (.tmp 147) _ rfl 3 i0 _ Try.underlying22 hi0 hz0 hz1 hz2 rfl (.slice AB m cB) rfl (B8.out.row.pure ((Only.refl _ W8).alloc _)) ⟨W8.heap.size, 0, none⟩ 1 e.cycles rfl CX.out ⟨by omega, by omega⟩ (by rw [HLB.out]; omega) hsz ?_; intro v9 w9 ht9 ho9 hat9; obtain ⟨A9, c9, e9, _, _⟩ := ht9.form; simp only [List.length_append, List.length_singleton, HLB.out] at e9; subst e9; have T9 := Lib.hid ht9; have O9 := Lib.hid ho9; have AT9 := Lib.hid hat9; clear ht9 ho9 hat9)
                go_roundw
                case rel =>
                  refine ⟨m + 1, hkt, by go_num, (B8.out.keep ((Only.refl _ W8).alloc _)).app ?_ O9.out AT9.out⟩
                  have := T9.out
                  rw [List.take_add_one, HT.out]
                  simp only [Option.toList_some, List.map_append, List.map_cons, List.map_nil]
                  rw [← HTH.out, cy_at HI.out.nd HE.out]
                  exact this
                case measure => simp [intOf]; omega
              · obtain rfl : m = os.length := by omega
                have HB2 := Lib.hid (show Be w wr P v L (.slice AO os.length cO) os (.slice AN nt.length cN) nt (.slice AB os.length cB) (os.map (cy L)) from by have := HB.out; rwa [List.take_length] at this)
                clear hkt hm
                go_wp2_with fail
                refine (end_any P v L _ HB2.out.lo.line (fun e he => by have := HI.out.cyc e he; omega)).mono ?_
                rintro e w5 ⟨rfl, hl5, ho5⟩
                have B5 := Lib.hid (HB2.out.ended hl5 ho5)
                have HNT := Lib.hid (show ((L.map tick).map En.thread).Nodup from by rw [map_thread tick (fun _ => rfl)]; exact HI.out.nd)
                clear hl5 ho5
                go_wp2_with fail
                go_loopw [15] (fun i wr3 => ∃ (m : Nat), m ≤ os.length ∧ i = .int .i64 m ∧ Be w wr3 P v (L.map tick) (.slice AO os.length cO) os (.slice AN nt.length cN) nt (.slice AB os.length cB) (os.map (cy L))) (fun i _ => os.length - (intOf i).toNat)
                case atStart => exact ⟨0, Nat.zero_le _, by first | rfl | simp, B5.out⟩
                case round =>
                  obtain ⟨m, hm, rfl, hB⟩ := hrel
                  have HB := Lib.hid hB
                  clear hB
                  by_cases hkt : m < os.length
                  · obtain ⟨t, ht⟩ : ∃ t, os[m]? = some t := ⟨_, List.getElem?_eq_getElem hkt⟩
                    obtain ⟨j, e, he, hw, hth⟩ := ws_mem (l := L) (t := t) (by rw [HI.out.eq]; exact List.mem_of_getElem? ht)
                    obtain ⟨x, hx⟩ : ∃ x, x = tick e := ⟨_, rfl⟩
                    have HE := Lib.hid (show (L.map tick)[j]? = some x from by rw [List.getElem?_map, he, hx]; rfl)
                    have HXT := Lib.hid (show x.thread = t from by rw [hx]; exact hth)
                    have HT := Lib.hid ht
                    have HCY := Lib.hid (show cy L t = e.cycles from by rw [← hth]; exact cy_at HI.out.nd he)
                    obtain ⟨hc0, hc1⟩ := HI.out.cyc e (List.mem_of_getElem? he)
                    have HNO := Lib.hid (show (hasI nt t = true ∧ x.cycles = e.cycles + 1) ∨ (hasI nt t = false ∧ x.cycles = e.cycles + 0) from by
                      have hn := HI.out.nte e (List.mem_of_getElem? he) hw
                      rw [hth] at hn
                      cases hno : e.noted with
                      | true => exact .inl ⟨decide_eq_true (hn.1 hno), by simp [hx, tick, hno, hw]⟩
                      | false => exact .inr ⟨decide_eq_false (fun h => by rw [hn.2 h] at hno; cases hno), by simp [hx, tick, hno]⟩)
                    obtain ⟨_, _, hv, _, _, _, hcells⟩ := HB.out.lo.ord.sl
                    obtain ⟨gO, offO, hA, _, hcO⟩ := hcells (by omega)
                    injection hv with hv1 hv2 hv3
                    subst hv1 hv3 hA
                    have c0 : wr.cell? ⟨gO, offO + m, none⟩ = some (.int .i64 t) := by have := hcO m hkt; rw [List.getD_eq_getElem?_getD, HT.out] at this; exact this
                    obtain ⟨_, _, hv, _, _, _, hcells⟩ := HB.out.row.sl
                    obtain ⟨gB, offB, hA, _, hcB⟩ := hcells (by rw [List.length_map]; omega)
                    injection hv with hv1 hv2 hv3
                    subst hv1 hv3 hA
                    have b0 : wr.cell? ⟨gB, offB + m, none⟩ = some (.int .i64 e.cycles) := by have := hcB m (by rw [List.length_map]; exact hkt); rw [List.getD_eq_getElem?_getD, List.getElem?_map, HT.out] at this; rw [← HCY.out]; exact this
                    have hkt' : (m : Int) < ((os.length : Nat) : Int) := by omega
                    clear he hw hth ht hcO hcells hv2 hx hcB
                    go_wp2_with fail
                    refine (lineOf_in P v (L.map tick) j x t _ HB.out.lo.line HE.out (by have := ix_thread HNT.out HE.out; rwa [HXT.out] at this)).mono ?_
                    rintro e7 w7 ⟨A7, c7, rfl, hp7, _, _⟩
                    have hp8 := hp7.alloc (.cells #[.int .i64 x.thread, .int .i64 x.frags, .int .i64 x.spine, .int .i64 x.state, .int .i64 x.cycles, .int .i64 x.at_, .slice A7 x.got.length c7] 28)
                    have B8 := Lib.hid (HB.out.keep hp8)
                    have c8 := Pure.keep hp8 c0
                    have b8 := Pure.keep hp8 b0
                    clear hp7 hp8 c0 b0
                    go_upto_region 44 with fail
                    have c4 : (w7.alloc (.cells #[.int .i64 x.thread, .int .i64 x.frags, .int .i64 x.spine, .int .i64 x.state, .int .i64 x.cycles, .int .i64 x.at_, .slice A7 x.got.length c7] 28)).cell? ⟨w7.heap.size, 4, none⟩ = some (.int .i64 x.cycles) := by rw [cell_of_row _ w7.heap.size _ _ _ (0, 0) (heap_alloc_new w7 _)]; rfl
                    generalize (w7.alloc (.cells #[.int .i64 x.thread, .int .i64 x.frags, .int .i64 x.spine, .int .i64 x.state, .int .i64 x.cycles, .int .i64 x.at_, .slice A7 x.got.length c7] 28)) = W8 at *
                    go_wp2_with fail
                    refine (has_any _ nt t _ B8.out.lo.sl).mono ?_
                    rcases HNO.out with ⟨hh, hxc⟩ | ⟨hh, hxc⟩
                    all_goals
                      rw [hh]
                      rw [hxc] at c4
                      rintro e9 w9 ⟨rfl, rfl⟩
                      clear hh hxc
                      have hw1 := wrap_sum e.cycles 1 hc0 (by omega) (by omega) (by omega)
                      have hw0 := wrap_sum e.cycles 0 hc0 (by omega) (by omega) (by omega)
                      rw [Int.add_zero] at hw0
                      try rw [Int.add_zero] at c4
                      go_wp2_with fail
                      go_quiet (fail)
                      clear hw0 hw1
                      go_wp2_with fail
                      go_roundw
                      case rel => exact ⟨m + 1, hkt, by go_num, B8.out.keep ((Only.refl _ _).drewN _)⟩
                      case measure => simp [intOf]; omega
                  · obtain rfl : m = os.length := by omega
                    go_wp2_with fail
                    go_meet
                    exact ⟨v, L.map tick, os, [], HB.out.lo.note' (Only.refl _ _) (SlI.nil _ _) (fun q hq => by simp [Value.ownBlock] at hq), HI.out.ended⟩
        · obtain ⟨h0, h1, h2, h4, h5⟩ := hq
          have z0 : (q.kind == 0) = false := beq_eq_false_iff_ne.2 h0
          have z1 : (q.kind == 1) = false := beq_eq_false_iff_ne.2 h1
          have z2 : (q.kind == 2) = false := beq_eq_false_iff_ne.2 h2
          have z4 : (q.kind == 4) = false := beq_eq_false_iff_ne.2 h4
          have z5 : (q.kind == 5) = false := beq_eq_false_iff_ne.2 h5
          clear h0 h1 h2 h4 h5
          go_wp2_with fail
          go_meet
          exact ⟨v, L, os, nt, D4.out, HI.out.more⟩
      case rest =>
        as_aux_lemma =>
          obtain ⟨v2, L2, os2, nt2, hD2, hI2⟩ := hcut
          clear y0 y1 y2 y4 y5
          have D2 := Lib.hid hD2
          have HI2 := Lib.hid hI2
          obtain ⟨A2, c2, e2, _, _⟩ := hD2.ord.form
          subst e2
          obtain ⟨A3, c3, e3, _, _⟩ := hD2.sl.len
          subst e3
          have hos2 := hI2.le
          clear hD2 hI2
          go_wp2_with fail
          refine (waits_any P v2 L2 _ D2.out.line).mono ?_
          have hcn : L2.countP isW = os2.length := by rw [ws_count, HI2.out.eq]
          rw [hcn]
          clear hcn
          rintro e w6 ⟨rfl, hp6⟩
          have D6 := Lib.hid (D2.out.keep hp6)
          clear hp6
          obtain hos0 | ⟨t, ts, hos0⟩ : os2 = [] ∨ ∃ t ts, os2 = t :: ts := by
            cases os2 with
            | nil => exact .inl rfl
            | cons t ts => exact .inr ⟨t, ts, rfl⟩
          · have HW := Lib.hid (show ws L2 = [] from HI2.out.eq.trans hos0)
            have x0 : decide (0 < os2.length) = false := decide_eq_false (by simp [hos0])
            clear hos0
            go_wp2_with fail
            refine (lineFirst_no P v2 L2 _ D6.out.line (ws_none HW.out)).mono ?_
            rintro e w7 ⟨rfl, hp7⟩
            have D7 := Lib.hid (D6.out.keep (hp7.alloc (.cells #[.int .i64 0, .int .i64 0, .int .i64 0, .int .i64 0, .int .i64 0, .int .i64 0, .slice none 0 0] 28)))
            clear hp7
            go_wp2_with fail
            go_quiet (fail)
            go_wp2_with fail
            go_roundw
            case rel => exact ⟨k + 1, v2, L2, os2, nt2, hlt, by go_num, D7.out.keep ((Only.refl _ _).drewN _), HI2.out⟩
            case measure => simp [intOf]; omega
          · have HW := Lib.hid (show ws L2 = t :: ts from HI2.out.eq.trans hos0)
            have HO0 := Lib.hid hos0
            obtain ⟨j, e, he, hw, hth, hj, hset⟩ := ws_first HW.out
            have HE := Lib.hid he
            have HJ := Lib.hid hj
            have HTH := Lib.hid hth
            have hpos : 0 < os2.length := by rw [hos0]; simp
            have x0 : decide (0 < os2.length) = true := decide_eq_true hpos
            have x1 : (0 : Int) < ((os2.length : Nat) : Int) := by omega
            clear he hw hth hj hset hos0
            go_wp2_with fail
            refine (lineFirst_in P v2 L2 j e _ D6.out.line HE.out HJ.out).mono ?_
            rintro e7 w7 ⟨A7, c7, rfl, hp7, _, _⟩
            have D7 := Lib.hid (D6.out.keep (hp7.alloc (.cells #[.int .i64 e.thread, .int .i64 e.frags, .int .i64 e.spine, .int .i64 e.state, .int .i64 e.cycles, .int .i64 e.at_, .slice A7 e.got.length c7] 28)))
            obtain ⟨gO, offO, hA, hcO, _⟩ := (by obtain ⟨A', c', e', h1, _, _, _, h5⟩ := D7.out.ord; injection e' with e1 e2 e3; subst e1 e3; exact h5 (by omega) : ∃ g off, A2 = some ⟨g, off, none⟩ ∧ (∀ j, j < os2.length → (w7.alloc (.cells #[.int .i64 e.thread, .int .i64 e.frags, .int .i64 e.spine, .int .i64 e.state, .int .i64 e.cycles, .int .i64 e.at_, .slice A7 e.got.length c7] 28)).cell? ⟨g, off + j, none⟩ = some (.int .i64 (os2.getD j 0))) ∧ ∀ j, j < c2 → ((w7.alloc (.cells #[.int .i64 e.thread, .int .i64 e.frags, .int .i64 e.spine, .int .i64 e.state, .int .i64 e.cycles, .int .i64 e.at_, .slice A7 e.got.length c7] 28)).cell? ⟨g, off + j, none⟩).isSome = true ∧ (w7.alloc (.cells #[.int .i64 e.thread, .int .i64 e.frags, .int .i64 e.spine, .int .i64 e.state, .int .i64 e.cycles, .int .i64 e.at_, .slice A7 e.got.length c7] 28)).frozen? ⟨g, off + j, none⟩ = false)
            subst hA
            have c0 : (w7.alloc (.cells #[.int .i64 e.thread, .int .i64 e.frags, .int .i64 e.spine, .int .i64 e.state, .int .i64 e.cycles, .int .i64 e.at_, .slice A7 e.got.length c7] 28)).cell? ⟨gO, offO, none⟩ = some (.int .i64 e.thread) := by have := hcO 0 hpos; rw [HO0.out] at this; exact this.trans (by show some (Value.int .i64 t) = _; rw [HTH.out])
            have c1 : (w7.alloc (.cells #[.int .i64 e.thread, .int .i64 e.frags, .int .i64 e.spine, .int .i64 e.state, .int .i64 e.cycles, .int .i64 e.at_, .slice A7 e.got.length c7] 28)).cell? ⟨w7.heap.size, 0, none⟩ = some (.int .i64 e.thread) := by rw [cell_of_row _ w7.heap.size _ _ _ (0, 0) (heap_alloc_new w7 _)]; rfl
            clear hp7 hcO
            go_wp2_with fail
            generalize w7.alloc (.cells #[.int .i64 e.thread, .int .i64 e.frags, .int .i64 e.spine, .int .i64 e.state, .int .i64 e.cycles, .int .i64 e.at_, .slice A7 e.got.length c7] 28) = W8 at *
            go_quiet (fail)
            go_wp2_with fail
            go_roundw
            case rel => exact ⟨k + 1, v2, L2, os2, nt2, hlt, by go_num, D7.out.keep ((Only.refl _ _).drewN _), HI2.out⟩
            case measure => simp [intOf]; omega
    · obtain rfl : k = l.length := by omega
      go_wp2_with fail
      refine (first_look _).mono ?_
      rintro e w9 ⟨rfl, hp9⟩
      have P9 := Lib.hid hp9
      clear hp9
      go_wp2_with fail
      go_ret
      exact ⟨rfl, Pure.then HD.out.pure P9.out⟩

theorem walk (w : World) (v : Value) (l : List Op10) (hl : OpsR w w.heap.size v l) :
    Calls Try.prog 4 #[v] w fun e w' => e = .returned (.bool true) ∧ Pure w w' := by
  cases h : fewB l with
  | false => exact out v l w hl h
  | true => exact main v l w hl h

theorem open_0 {H : Type} {enc : TypeId × Value → H} {W : World} {b0 base : Nat} {v : Value} {d : DataW H} {ps : List MemPlace} {r : Reach}
    (hval : Value.okWide Try.prog W r b0 34 v) (h : DataW.Trod enc Try.prog W base (fun _ => true) true 34 v d ps) : ∃ l, OpsR W W.heap.size v l := open_ops hval h

set_option maxRecDepth 100000 in
theorem lifted (os : Os) (started : os.Started) (H : Type) (enc : TypeId × Value → H) :
    ReturnsInHanded {} Try.checked os 4 .any (Rows.lineOrderSpec.pre6 enc Try.prog Try.f4 Rows.lineOrderRow.domain false) (Rows.lineOrderSpec.post enc Try.prog Try.f4 false true false false) :=
  lift_law (C := Try.checked) own started (by kernel_rfl) Try.func4 laidOut (by kernel_rfl) rfl rfl Try.underlying4
    (fun ds h => by match ds, h with | [_], _ => rfl)
    (ChangeSpec.witness6 (enc := enc) (C := Try.checked) false ⟨#[], #[.slice none 0 0], []⟩ 8 (by kernel_rfl) (by kernel_rfl) (by kernel_rfl) (by kernel_rfl))
    (fun W base args ds ps hval hA hlt => by
      have hA' : DataW.TrodAll enc Try.prog W 0 (fun _ => true) true Try.f4.params.toList args.toList ds ps := hA
      rw [Try.params4] at hA'
      have hval' : ∀ (j : Nat) t v, Try.f4.params[j]? = some t → args[j]? = some v → Value.okWide Try.prog W .any base t v := hval
      rw [Try.params4] at hval'
      obtain ⟨v0, vs0, d0, ds0, p0, q0, hargs, rfl, rfl, h0, r0⟩ := trodAll_cons hA'
      obtain ⟨rfl, rfl, rfl⟩ := trodAll_nil r0
      obtain rfl : args = #[v0] := by cases args; simp_all
      obtain ⟨x0, s0⟩ := open_0 (hval' 0 34 v0 rfl rfl) h0
      exact (walk W _ x0 s0).mono fun e W' ⟨he, hp⟩ => ⟨he, hp.below⟩)

/-- The statement. -/
theorem proved : Rows.LineOrderSaid :=
  OpenClaim.holds_of_wide 4 Try.f4 rfl rfl rfl rfl rfl rfl rfl ⟨rfl, rfl, rfl, rfl, rfl⟩ rfl rfl rfl rfl rfl (by kernel_rfl) Try.func4 (by kernel_rfl)
    (of_decide_eq_true (by kernel_rfl)) (by unfold Func.isWrapper; first | (rw [if_pos (by decide +kernel)]; kernel_rfl) | (rw [if_neg (by decide +kernel)]; exact ⟨rfl, rfl⟩))
    (fun os started H enc _ => lifted os started H enc)
#print axioms proved

end Go.Proofs.Ytmpomkejmokdlaa.lineOrder
