/-
  LinePlays: any operations: who waits, in order, with what, for how many cycles, as the document's line tells. For every input.
-/
import Derived.Test.YtmpomkejmokdlaaLnx3
namespace Go.Proofs.Ytmpomkejmokdlaa.linePlays
open Go.RowKit Go.ChangeShapes Go.WideShapes Go.ChangeAt

/-! ### Plain -/
/-- What both lines tell of a request. -/
def core (e : En) : En := { e with gv := .slice none 0 0, noted := false }
theorem core_len {l lx : List En} (h : lx.map core = l.map core) : lx.length = l.length := by simpa using congrArg List.length h
theorem ix_core (p : En → Bool) (hp : ∀ e, p (core e) = p e) (l : List En) : ixI p (l.map core) = ixI p l := by
  have : (l.map core).findIdx p = l.findIdx p := by
    rw [List.findIdx_map]
    congr 1
    funext e
    exact hp e
  simp [ixI, this]
theorem core_ix (p : En → Bool) (hp : ∀ e, p (core e) = p e) {l lx : List En} (h : lx.map core = l.map core) : ixI p lx = ixI p l := by rw [← ix_core p hp lx, h, ix_core p hp l]
theorem core_get {l lx : List En} (h : lx.map core = l.map core) {j : Nat} {e : En} (he : l[j]? = some e) : ∃ x, lx[j]? = some x ∧ core x = core e := by
  have h1 : (lx.map core)[j]? = (l.map core)[j]? := by rw [h]
  rw [List.getElem?_map, List.getElem?_map, he] at h1
  obtain ⟨x, hx, hc⟩ := Option.map_eq_some_iff.1 h1
  exact ⟨x, hx, hc⟩
theorem core_mem {l lx : List En} (h : lx.map core = l.map core) {x : En} (hx : x ∈ lx) : ∃ e ∈ l, core x = core e := by
  obtain ⟨j, hj⟩ := List.mem_iff_getElem?.1 hx
  obtain ⟨e, he, hc⟩ := core_get h.symm hj
  exact ⟨e, List.mem_of_getElem? he, hc.symm⟩
theorem core_set {l lx : List En} (h : lx.map core = l.map core) {j : Nat} {e' x' : En} (hc : core x' = core e') : (lx.set j x').map core = (l.set j e').map core := by
  rw [List.map_set, List.map_set, h, hc]
theorem map_erase {β : Type} (f : En → β) (l : List En) (j : Nat) : (l.eraseIdx j).map f = (l.map f).eraseIdx j := by simp [List.eraseIdx_eq_take_drop_succ]
theorem core_erase {l lx : List En} (h : lx.map core = l.map core) (j : Nat) : (lx.eraseIdx j).map core = (l.eraseIdx j).map core := by
  rw [map_erase, map_erase, h]
theorem core_map {l lx : List En} (h : lx.map core = l.map core) (f g : En → En) (hfg : ∀ e ∈ l, ∀ x, core x = core e → core (g x) = core (f e)) : (lx.map g).map core = (l.map f).map core := by
  apply List.ext_getElem?
  intro j
  rw [List.getElem?_map, List.getElem?_map, List.getElem?_map, List.getElem?_map]
  cases he : l[j]? with
  | none =>
    have : lx[j]? = none := by
      rw [List.getElem?_eq_none_iff] at he ⊢
      rw [core_len h]
      exact he
    rw [this]
    rfl
  | some e =>
    obtain ⟨x, hx, hc⟩ := core_get h he
    rw [hx]
    simp only [Option.map_some]
    rw [hfg e (List.mem_of_getElem? he) x hc]
theorem core_count {l lx : List En} (h : lx.map core = l.map core) : lx.countP isW = l.countP isW := by
  have k : ∀ l : List En, (l.map core).countP isW = l.countP isW := fun l => by rw [List.countP_map]; rfl
  rw [← k lx, h, k l]
theorem core_ws {l lx : List En} (h : lx.map core = l.map core) : (lx.filter isW).map En.thread = (l.filter isW).map En.thread := by
  have k : ∀ l : List En, ((l.map core).filter isW).map En.thread = (l.filter isW).map En.thread := fun l => by
    induction l with
    | nil => rfl
    | cons a l ih =>
      have ha : isW (core a) = isW a := rfl
      cases hw : isW a <;> simp [ha, hw, ih] <;> rfl
  rw [← k lx, h, k l]
theorem core_thread {x e : En} (h : core x = core e) : x.thread = e.thread ∧ x.frags = e.frags ∧ x.spine = e.spine ∧ x.state = e.state ∧ x.cycles = e.cycles ∧ x.at_ = e.at_ ∧ x.got = e.got := by
  simp only [core, En.mk.injEq] at h
  obtain ⟨h1, h2, h3, h4, h5, h6, _, h7, _⟩ := h
  exact ⟨h1, h2, h3, h4, h5, h6, h7⟩

theorem ix_thread {l : List En} (hn : (l.map En.thread).Nodup) {j : Nat} {e : En} (h : l[j]? = some e) : ixI (isT e.thread) l = j := by
  obtain ⟨hj, hje⟩ := List.getElem?_eq_some_iff.1 h
  refine ixI_at h (by simp [isT]) (fun i hi x hx => ?_)
  obtain ⟨hi', hix⟩ := List.getElem?_eq_some_iff.1 hx
  have := (List.pairwise_iff_getElem.1 hn) i j (by simpa using hi') (by simpa using hj) hi
  simp only [List.getElem_map, hje, hix] at this
  simp [isT, this]
theorem ix_new {l : List En} {t : Int} (h : t ∉ l.map En.thread) : ixI (isT t) l = -1 := ixI_none (fun j e he => by
  have : e.thread ≠ t := fun e' => h (List.mem_map.2 ⟨e, List.mem_of_getElem? he, e'⟩)
  simp [isT, this])
theorem ix_old {l : List En} {t : Int} (h : t ∈ l.map En.thread) : 0 ≤ ixI (isT t) l := by
  obtain ⟨e, he, rfl⟩ := List.mem_map.1 h
  have : l.findIdx (isT e.thread) < l.length := List.findIdx_lt_length_of_exists ⟨e, he, by simp [isT]⟩
  rw [ixI, if_pos this]
  omega
theorem ix_w (p : En → Bool) (l : List En) : ixI p l = -1 ∨ ∃ (j : Nat) (e : En), l[j]? = some e ∧ p e = true ∧ ixI p l = j := by
  by_cases h : l.findIdx p < l.length
  · exact .inr ⟨l.findIdx p, l[l.findIdx p], List.getElem?_eq_getElem h, List.findIdx_getElem (w := h), by rw [ixI, if_pos h]⟩
  · exact .inl (by rw [ixI, if_neg h])
theorem map_thread (f : En → En) (h : ∀ e, (f e).thread = e.thread) (l : List En) : (l.map f).map En.thread = l.map En.thread := by
  rw [List.map_map]
  exact List.map_congr_left (fun e _ => h e)

/-- What is true of both lines. -/
structure PI (l lx : List En) (nt : List Int) (K : Nat) : Prop where
  eq : lx.map core = l.map core
  nd : (l.map En.thread).Nodup
  nte : ∀ e ∈ l, (e.noted = true ↔ e.thread ∈ nt)
  ntm : ∀ t ∈ nt, t ∈ l.map En.thread
  cyc : ∀ e ∈ l, 0 ≤ e.cycles ∧ e.cycles ≤ K
  thr : ∀ e ∈ l, -9223372036854775808 ≤ e.thread ∧ e.thread ≤ 9223372036854775807
  len : l.length ≤ K
  ntl : nt.length ≤ K
section
variable {l lx : List En} {nt : List Int} {K : Nat}
theorem PI.more (h : PI l lx nt K) : PI l lx nt (K + 1) :=
  ⟨h.eq, h.nd, h.nte, h.ntm, fun e he => ⟨(h.cyc e he).1, by have := (h.cyc e he).2; omega⟩, h.thr, by have := h.len; omega, by have := h.ntl; omega⟩
theorem PI.lenx (h : PI l lx nt K) : lx.length ≤ K := by rw [core_len h.eq]; exact h.len
theorem PI.cycx (h : PI l lx nt K) : ∀ e ∈ lx, 0 ≤ e.cycles ∧ e.cycles ≤ K := fun x hx => by
  obtain ⟨e, he, hc⟩ := core_mem h.eq hx
  rw [(core_thread hc).2.2.2.2.1]
  exact h.cyc e he
theorem PI.thrx (h : PI l lx nt K) : ∀ e ∈ lx, -9223372036854775808 ≤ e.thread ∧ e.thread ≤ 9223372036854775807 := fun x hx => by
  obtain ⟨e, he, hc⟩ := core_mem h.eq hx
  rw [(core_thread hc).1]
  exact h.thr e he
theorem PI.add (h : PI l lx nt K) (x : En) (hx : x.thread ∉ l.map En.thread) (hr : -9223372036854775808 ≤ x.thread ∧ x.thread ≤ 9223372036854775807) : PI (l ++ [fresh x]) (lx ++ [fresh x]) nt (K + 1) := by
  refine ⟨by rw [List.map_append, List.map_append, h.eq], ?_, fun e he => ?_, fun t ht => ?_, fun e he => ?_, fun e he => ?_, by rw [List.length_append]; have := h.len; simp; omega, by have := h.ntl; omega⟩
  · rw [List.map_append, List.nodup_append]
    refine ⟨h.nd, by simp, fun a ha b hb e => hx ?_⟩
    simp [fresh] at hb
    rw [← hb, ← e]
    exact ha
  · rcases List.mem_append.1 he with he | he
    · exact h.nte e he
    · simp at he
      subst he
      exact ⟨fun e => by simp [fresh] at e, fun e => absurd (h.ntm _ e) hx⟩
  · rw [List.map_append]
    exact List.mem_append_left _ (h.ntm t ht)
  · rcases List.mem_append.1 he with he | he
    · exact ⟨(h.cyc e he).1, by have := (h.cyc e he).2; omega⟩
    · simp at he
      subst he
      simp [fresh]
      omega
  · rcases List.mem_append.1 he with he | he
    · exact h.thr e he
    · simp at he
      subst he
      exact hr
theorem PI.done (h : PI l lx nt K) {j : Nat} {e e' x' : En} (he : l[j]? = some e) (hc : core x' = core e') (h1 : e'.thread = e.thread) (h2 : e'.noted = e.noted) (h3 : e'.cycles = e.cycles) : PI (l.set j e') (lx.set j x') nt (K + 1) := by
  obtain ⟨hj, hje⟩ := List.getElem?_eq_some_iff.1 he
  have hem := List.mem_of_getElem? he
  have hm : (l.set j e').map En.thread = l.map En.thread := by
    rw [List.map_set, h1]
    apply List.ext_getElem (by simp)
    intro i h5 h6
    rw [List.getElem_set]
    split
    · rename_i hij
      subst hij
      simp [hje]
    · rfl
  refine ⟨core_set h.eq hc, by rw [hm]; exact h.nd, fun x hx => ?_, fun t ht => by rw [hm]; exact h.ntm t ht, fun x hx => ?_, fun x hx => ?_, by rw [List.length_set]; have := h.len; omega, by have := h.ntl; omega⟩
  · rcases List.mem_or_eq_of_mem_set hx with hx | rfl
    · exact h.nte x hx
    · rw [h1, h2]
      exact h.nte e hem
  · rcases List.mem_or_eq_of_mem_set hx with hx | rfl
    · exact ⟨(h.cyc x hx).1, by have := (h.cyc x hx).2; omega⟩
    · have := h.cyc e hem
      rw [h3]
      omega
  · rcases List.mem_or_eq_of_mem_set hx with hx | rfl
    · exact h.thr x hx
    · rw [h1]
      exact h.thr e hem
theorem uniq (hn : (l.map En.thread).Nodup) {a b : En} (ha : a ∈ l) (hb : b ∈ l) (h : a.thread = b.thread) : a = b := by
  obtain ⟨i, hi⟩ := List.mem_iff_getElem?.1 ha
  obtain ⟨j, hj⟩ := List.mem_iff_getElem?.1 hb
  have h1 := ix_thread hn hi
  rw [h, ix_thread hn hj] at h1
  have : i = j := by omega
  subst this
  rw [hi] at hj
  injection hj
theorem PI.begun (h : PI l lx nt K) : PI (l.map note) lx ((lx.filter isW).map En.thread) (K + 1) := by
  have hm := map_thread note (fun _ => rfl) l
  rw [core_ws h.eq]
  refine ⟨?_, by rw [hm]; exact h.nd, fun x hx => ?_, fun t ht => ?_, fun x hx => ?_, fun x hx => ?_, by rw [List.length_map]; have := h.len; omega, ?_⟩
  · have := core_map h.eq note id (fun e _ x hc => hc)
    rwa [List.map_id] at this
  · obtain ⟨e, he, rfl⟩ := List.mem_map.1 hx
    constructor
    · intro hw
      exact List.mem_map.2 ⟨e, List.mem_filter.2 ⟨he, hw⟩, rfl⟩
    · intro hin
      obtain ⟨e2, he2, ht⟩ := List.mem_map.1 hin
      obtain ⟨h1, h2⟩ := List.mem_filter.1 he2
      have := uniq h.nd h1 he ht
      subst this
      exact h2
  · rw [hm]
    obtain ⟨e, he, rfl⟩ := List.mem_map.1 ht
    exact List.mem_map.2 ⟨e, (List.mem_filter.1 he).1, rfl⟩
  · obtain ⟨e, he, rfl⟩ := List.mem_map.1 hx
    have := h.cyc e he
    simp only [note]
    omega
  · obtain ⟨e, he, rfl⟩ := List.mem_map.1 hx
    exact h.thr e he
  · rw [List.length_map]
    have := List.length_filter_le isW l
    have := h.len
    omega
theorem PI.ended (h : PI l lx nt K) : PI (l.map tick) (lx.map (tickx nt)) [] (K + 1) := by
  have hm := map_thread tick (fun _ => rfl) l
  refine ⟨core_map h.eq tick (tickx nt) (fun e he x hc => ?_), by rw [hm]; exact h.nd, fun x hx => ?_, fun t ht => by simp at ht, fun x hx => ?_, fun x hx => ?_, by rw [List.length_map]; have := h.len; omega, by simp⟩
  · obtain ⟨c1, c2, c3, c4, c5, c6, c7⟩ := core_thread hc
    have hn := h.nte e he
    have hw : isW x = isW e := by simp [isW, c4]
    have hh : hasI nt e.thread = e.noted := by
      rw [Bool.eq_iff_iff, hn]
      simp [hasI]
    simp only [core, tick, tickx, c1, c2, c3, c4, c5, c6, c7, hw, hh, En.mk.injEq, true_and, and_true]
    cases e.noted <;> cases isW e <;> simp
  · obtain ⟨e, he, rfl⟩ := List.mem_map.1 hx
    simp [tick]
  · obtain ⟨e, he, rfl⟩ := List.mem_map.1 hx
    have := h.cyc e he
    simp only [tick]
    split <;> omega
  · obtain ⟨e, he, rfl⟩ := List.mem_map.1 hx
    exact h.thr e he
theorem PI.dropped (h : PI l lx nt K) {j : Nat} {e : En} (he : l[j]? = some e) : PI (l.eraseIdx j) (lx.eraseIdx j) (nt.filter (· != e.thread)) (K + 1) := by
  have hsub : ∀ x ∈ l.eraseIdx j, x ∈ l := fun x hx => List.mem_of_mem_eraseIdx hx
  have hne : ∀ x ∈ l.eraseIdx j, x.thread ≠ e.thread := fun x hx ht => by
    have := uniq h.nd (hsub x hx) (List.mem_of_getElem? he) ht
    subst this
    obtain ⟨i, hi, hx'⟩ := List.mem_eraseIdx_iff_getElem?.1 hx
    have h1 := ix_thread h.nd hx'
    have h2 := ix_thread h.nd he
    omega
  refine ⟨core_erase h.eq j, ?_, fun x hx => ?_, fun t ht => ?_, fun x hx => ?_, fun x hx => h.thr x (hsub x hx), ?_, ?_⟩
  · rw [map_erase]
    exact List.Nodup.sublist (List.eraseIdx_sublist ..) h.nd
  · rw [h.nte x (hsub x hx), List.mem_filter]
    have := hne x hx
    simp [this]
  · rw [List.mem_filter] at ht
    obtain ⟨y, hy, hyt⟩ := List.mem_map.1 (h.ntm t ht.1)
    refine List.mem_map.2 ⟨y, ?_, hyt⟩
    obtain ⟨i, hi⟩ := List.mem_iff_getElem?.1 hy
    refine List.mem_eraseIdx_iff_getElem?.2 ⟨i, ?_, hi⟩
    rintro rfl
    rw [he] at hi
    injection hi with hi
    subst hi
    simp [hyt] at ht
  · have := h.cyc x (hsub x hx)
    omega
  · have := List.length_eraseIdx_le l j
    have := h.len
    omega
  · have := List.length_filter_le (· != e.thread) nt
    have := h.ntl
    omega
end

/-- The first request that answers; whether there is one. -/
def fE (p : En → Bool) (l : List En) : En := (l[l.findIdx p]?).getD default
def fB (p : En → Bool) (l : List En) : Bool := (l[l.findIdx p]?).isSome
theorem core_f (p : En → Bool) (hp : ∀ e, p (core e) = p e) {l lx : List En} (h : lx.map core = l.map core) : core (fE p lx) = core (fE p l) ∧ fB p lx = fB p l := by
  have k : ∀ l : List En, l.findIdx p = (l.map core).findIdx p := fun l => by
    rw [List.findIdx_map]
    congr 1
    funext e
    exact (hp e).symm
  have hi : lx.findIdx p = l.findIdx p := by rw [k lx, h, ← k l]
  simp only [fE, fB, hi]
  cases he : l[l.findIdx p]? with
  | none =>
    have : lx[l.findIdx p]? = none := by
      rw [List.getElem?_eq_none_iff] at he ⊢
      rw [core_len h]
      exact he
    rw [this]
    exact ⟨rfl, rfl⟩
  | some e =>
    obtain ⟨x, hx, hc⟩ := core_get h he
    rw [hx]
    exact ⟨hc, rfl⟩
theorem f_ix (p : En → Bool) (l : List En) : (ixI p l = -1 ∧ fE p l = default ∧ fB p l = false) ∨ ∃ j : Nat, l[j]? = some (fE p l) ∧ ixI p l = j ∧ fB p l = true := by
  by_cases h : l.findIdx p < l.length
  · refine .inr ⟨l.findIdx p, ?_, by rw [ixI, if_pos h], ?_⟩
    · rw [fE, List.getElem?_eq_getElem h]
      rfl
    · rw [fB, List.getElem?_eq_getElem h]
      rfl
  · have hn : l[l.findIdx p]? = none := List.getElem?_eq_none_iff.2 (by omega)
    exact .inl ⟨by rw [ixI, if_neg h], by rw [fE, hn]; rfl, by rw [fB, hn]; rfl⟩
theorem ofp_any (P : Nat) (v : Value) (l : List En) (t : Int) (a : En) (b : Bool) (w : World) (hl : LineOf w P v l) (ha : fE (isT t) l = a) (hb : fB (isT t) l = b) :
    Calls Try.prog 16 #[.pointer (some ⟨P, 0, none⟩), .int .i64 t] w fun e w' => ∃ A c, e = .returned (.tuple #[reqV a (.slice A a.got.length c), .bool b]) ∧ Pure w w' ∧ SlI w' w'.heap.size (.slice A a.got.length c) a.got := by
  subst ha hb
  rcases f_ix (isT t) l with ⟨hix, h1, h2⟩ | ⟨j, hj, hix, h2⟩
  · rw [h1, h2]
    exact (lineOf_no P v l t w hl hix).mono fun e w' ⟨he, hp⟩ => ⟨none, 0, he, hp, SlI.nil _ _⟩
  · rw [h2]
    exact (lineOf_in P v l j _ t w hl hj hix).mono fun e w' ⟨A, c, he, hp, hs, _⟩ => ⟨A, c, he, hp, hs⟩
theorem firstp_any (P : Nat) (v : Value) (l : List En) (a : En) (b : Bool) (w : World) (hl : LineOf w P v l) (ha : fE isW l = a) (hb : fB isW l = b) :
    Calls Try.prog 11 #[.pointer (some ⟨P, 0, none⟩)] w fun e w' => ∃ A c, e = .returned (.tuple #[reqV a (.slice A a.got.length c), .bool b]) ∧ Pure w w' ∧ SlI w' w'.heap.size (.slice A a.got.length c) a.got := by
  subst ha hb
  rcases f_ix isW l with ⟨hix, h1, h2⟩ | ⟨j, hj, hix, h2⟩
  · rw [h1, h2]
    exact (lineFirst_no P v l w hl hix).mono fun e w' ⟨he, hp⟩ => ⟨none, 0, he, hp, SlI.nil _ _⟩
  · rw [h2]
    exact (lineFirst_in P v l j _ w hl hj hix).mono fun e w' ⟨A, c, he, hp, hs, _⟩ => ⟨A, c, he, hp, hs⟩
theorem ofx_any (X : Nat) (v n : Value) (l : List En) (nt : List Int) (t : Int) (a : En) (b : Bool) (w : World) (hl : LnxOf w X v n l nt) (ha : fE (isT t) l = a) (hb : fB (isT t) l = b) :
    Calls Try.prog 28 #[.pointer (some ⟨X, 0, none⟩), .int .i64 t] w fun e w' => ∃ A c, e = .returned (.tuple #[reqV a (.slice A a.got.length c), .bool b]) ∧ Pure w w' ∧ SlI w' w'.heap.size (.slice A a.got.length c) a.got := by
  subst ha hb
  rcases f_ix (isT t) l with ⟨hix, h1, h2⟩ | ⟨j, hj, hix, h2⟩
  · rw [h1, h2]
    exact (ofx_no X v n l nt t w hl hix).mono fun e w' ⟨he, hp⟩ => ⟨none, 0, he, hp, SlI.nil _ _⟩
  · rw [h2]
    obtain ⟨A, c, hv, _⟩ := (hl.got _ (List.mem_of_getElem? hj)).1
    have hs := (hl.got _ (List.mem_of_getElem? hj)).1
    refine (ofx_in X v n l nt j _ t w hl hj hix).mono fun e w' ⟨he, hp⟩ => ⟨A, c, by rw [he, hv], hp, ?_⟩
    rw [← hv]
    exact hs.only hp (fun _ _ f => f)
theorem fxx_any (X : Nat) (v n : Value) (l : List En) (nt : List Int) (a : En) (b : Bool) (w : World) (hl : LnxOf w X v n l nt) (ha : fE isW l = a) (hb : fB isW l = b) :
    Calls Try.prog 29 #[.pointer (some ⟨X, 0, none⟩)] w fun e w' => ∃ A c, e = .returned (.tuple #[reqV a (.slice A a.got.length c), .bool b]) ∧ Pure w w' ∧ SlI w' w'.heap.size (.slice A a.got.length c) a.got := by
  subst ha hb
  rcases f_ix isW l with ⟨hix, h1, h2⟩ | ⟨j, hj, hix, h2⟩
  · rw [h1, h2]
    exact (firstx_no X v n l nt w hl hix).mono fun e w' ⟨he, hp⟩ => ⟨none, 0, he, hp, SlI.nil _ _⟩
  · rw [h2]
    obtain ⟨A, c, hv, _⟩ := (hl.got _ (List.mem_of_getElem? hj)).1
    have hs := (hl.got _ (List.mem_of_getElem? hj)).1
    refine (firstx_in X v n l nt j _ w hl hj hix).mono fun e w' ⟨he, hp⟩ => ⟨A, c, by rw [he, hv], hp, ?_⟩
    rw [← hv]
    exact hs.only hp (fun _ _ f => f)
theorem got_same {x e : En} (h : core x = core e) {w : World} {A : Option Addr} {c : Nat} (hs : SlI w w.heap.size (.slice A x.got.length c) x.got) : SlI w w.heap.size (.slice A x.got.length c) e.got := by
  have h7 := (core_thread h).2.2.2.2.2.2
  generalize x.got.length = n at hs ⊢
  rwa [h7] at hs

/-! ### Memory -/
/-- Both lines, in blocks of the call's own. -/
structure Py (w wr : World) (P : Nat) (v : Value) (l : List En) (X : Nat) (vx nx : Value) (lx : List En) (nt : List Int) : Prop where
  p : LineOf wr P v l
  x : LnxOf wr X vx nx lx nt
  sep : ∀ q, LineS P v q → ¬ LnxS X vx nx q
  gx : ∀ e ∈ l, ∀ q, e.gv.ownBlock = some q → ¬ LnxS X vx nx q
  xg : ∀ e ∈ lx, ∀ q, e.gv.ownBlock = some q → ¬ LineS P v q
  np : ∀ q, LineS P v q → w.heap.size ≤ q
  nx : ∀ q, LnxS X vx nx q → w.heap.size ≤ q
  pure : Pure w wr
section
variable {w wr w2 : World} {P X : Nat} {v v2 vx nx vx2 nx2 : Value} {l l2 lx lx2 : List En} {nt nt2 : List Int}
theorem Py.keep (h : Py w wr P v l X vx nx lx nt) (hp : Pure wr w2) : Py w w2 P v l X vx nx lx nt :=
  ⟨h.p.pure hp, h.x.pure hp, h.sep, h.gx, h.xg, h.np, h.nx, Pure.then h.pure hp⟩
theorem grow_s {B : Nat} (hat : v2.ownBlock = v.ownBlock ∨ ∃ q, v2.ownBlock = some q ∧ B ≤ q) : ∀ q, LineS P v2 q → LineS P v q ∨ B ≤ q := fun q hq => by
  rcases hq with hq | hq
  · exact .inl (.inl hq)
  · rcases hat with hat | ⟨k, hat, hk⟩
    · exact .inl (.inr (hat ▸ hq))
    · rw [hat] at hq
      injection hq with hq
      exact .inr (by omega)
theorem Py.stepP (h : Py w wr P v l X vx nx lx nt) (hl : LineOf w2 P v2 l2) (ho : Only (LineS P v) wr w2) (hat : ∀ q, LineS P v2 q → LineS P v q ∨ wr.heap.size ≤ q)
    (hg : ∀ e ∈ l2, (∃ e0 ∈ l, e0.gv = e.gv) ∨ ∀ q, e.gv.ownBlock = some q → wr.heap.size ≤ q) : Py w w2 P v2 l2 X vx nx lx nt := by
  refine ⟨hl, h.x.only ho (fun q hq e => h.sep q e hq) h.xg, fun q hq hx => ?_, fun e he q hq hx => ?_, fun e he q hq hx => ?_, fun q hq => ?_, h.nx, h.pure.trans ho (fun i hi e => by have := h.np i e; omega)⟩
  · rcases hat q hq with hq | hq
    · exact h.sep q hq hx
    · have := h.x.lt q hx
      omega
  · rcases hg e he with ⟨e0, he0, h0⟩ | hg
    · exact h.gx e0 he0 q (h0 ▸ hq) hx
    · have := hg q hq
      have := h.x.lt q hx
      omega
  · rcases hat q hx with hx | hx
    · exact h.xg e he q hq hx
    · have := ((h.x.got e he).2 q hq).2
      omega
  · rcases hat q hq with hq | hq
    · exact h.np q hq
    · have := h.pure.size
      omega
theorem Py.stepX (h : Py w wr P v l X vx nx lx nt) (hl : LnxOf w2 X vx2 nx2 lx2 nt2) (ho : Only (LnxS X vx nx) wr w2) (hat : ∀ q, LnxS X vx2 nx2 q → LnxS X vx nx q ∨ wr.heap.size ≤ q)
    (hg : ∀ e ∈ lx2, (∃ e0 ∈ lx, e0.gv = e.gv) ∨ ∀ q, e.gv.ownBlock = some q → wr.heap.size ≤ q) : Py w w2 P v l X vx2 nx2 lx2 nt2 := by
  refine ⟨h.p.only ho (fun q hq e => h.sep q hq e) h.gx, hl, fun q hq hx => ?_, fun e he q hq hx => ?_, fun e he q hq hx => ?_, h.np, fun q hq => ?_, h.pure.trans ho (fun i hi e => by have := h.nx i e; omega)⟩
  · rcases hat q hx with hx | hx
    · exact h.sep q hq hx
    · have := h.p.lt q hq
      omega
  · rcases hat q hx with hx | hx
    · exact h.gx e he q hq hx
    · have := ((h.p.got e he).2 q hq).2
      omega
  · rcases hg e he with ⟨e0, he0, h0⟩ | hg
    · exact h.xg e0 he0 q (h0 ▸ hq) hx
    · have := hg q hq
      have := h.p.lt q hx
      omega
  · rcases hat q hq with hq | hq
    · exact h.nx q hq
    · have := h.pure.size
      omega
end

/-- While an operation is done at both: which of them has been done; the blocks B keep what they hold. -/
def PP (w0 : World) (P X : Nat) (B : List (Nat × Obj)) (Lp : Bool → List En → Prop) (Lx : Bool → List En → List Int → Prop) (s x : Bool) (w : World) : Prop :=
  ∃ v l vx nx lx nt, Py w0 w P v l X vx nx lx nt ∧ Lp s l ∧ Lx x lx nt ∧ ∀ b ∈ B, w.heap[b.1]? = some b.2 ∧ ¬ LineS P v b.1 ∧ ¬ LnxS X vx nx b.1
section
variable {w0 w : World} {P X : Nat} {B : List (Nat × Obj)} {Lp : Bool → List En → Prop} {Lx : Bool → List En → List Int → Prop} {s x : Bool} {f : FuncId} {args : Array Value} {r : Value}
theorem PP.keep (h : PP w0 P X B Lp Lx s x w) {w2 : World} (hp : Pure w w2) : PP w0 P X B Lp Lx s x w2 := by
  obtain ⟨v, l, vx, nx, lx, nt, hy, h1, h2, hb⟩ := h
  exact ⟨v, l, vx, nx, lx, nt, hy.keep hp, h1, h2, fun b hbm => ⟨(hp.block _ (Array.getElem?_eq_some_iff.1 (hb b hbm).1).1 (fun f => f)).trans (hb b hbm).1, (hb b hbm).2⟩⟩
theorem PP.pure (h : PP w0 P X B Lp Lx s x w) : Pure w0 w := by
  obtain ⟨v, l, vx, nx, lx, nt, hy, _⟩ := h
  exact hy.pure
theorem PP.blk (h : PP w0 P X B Lp Lx s x w) {q : Nat} {o : Obj} (hb : (q, o) ∈ B) : w.heap[q]? = some o := by
  obtain ⟨v, l, vx, nx, lx, nt, hy, h1, h2, hb'⟩ := h
  exact (hb' _ hb).1
theorem PP.doP (h : PP w0 P X B Lp Lx false x w)
    (hc : ∀ v l, LineOf w P v l → Lp false l → Calls Try.prog f args w fun e w' => ∃ v' l', e = .returned r ∧ LineOf w' P v' l' ∧ Only (LineS P v) w w' ∧ (∀ q, LineS P v' q → LineS P v q ∨ w.heap.size ≤ q) ∧ Lp true l' ∧ ∀ e ∈ l', (∃ e0 ∈ l, e0.gv = e.gv) ∨ ∀ q, e.gv.ownBlock = some q → w.heap.size ≤ q) :
    Calls Try.prog f args w fun e w' => e = .returned r ∧ PP w0 P X B Lp Lx true x w' := by
  obtain ⟨v, l, vx, nx, lx, nt, hy, h1, h2, hb⟩ := h
  refine (hc v l hy.p h1).mono fun e w' ⟨v', l', he, hl, ho, hat, h3, hg⟩ => ⟨he, v', l', vx, nx, lx, nt, hy.stepP hl ho hat hg, h3, h2, fun b hbm => ?_⟩
  obtain ⟨b1, b2, b3⟩ := hb b hbm
  have hlt := (Array.getElem?_eq_some_iff.1 b1).1
  refine ⟨(ho.block _ hlt b2).trans b1, fun e => ?_, b3⟩
  rcases hat _ e with e | e
  · exact b2 e
  · omega
theorem PP.doX (h : PP w0 P X B Lp Lx s false w)
    (hc : ∀ vx nx lx nt, LnxOf w X vx nx lx nt → Lx false lx nt → Calls Try.prog f args w fun e w' => ∃ vx' nx' lx' nt', e = .returned r ∧ LnxOf w' X vx' nx' lx' nt' ∧ Only (LnxS X vx nx) w w' ∧ (∀ q, LnxS X vx' nx' q → LnxS X vx nx q ∨ w.heap.size ≤ q) ∧ Lx true lx' nt' ∧ ∀ e ∈ lx', (∃ e0 ∈ lx, e0.gv = e.gv) ∨ ∀ q, e.gv.ownBlock = some q → w.heap.size ≤ q) :
    Calls Try.prog f args w fun e w' => e = .returned r ∧ PP w0 P X B Lp Lx s true w' := by
  obtain ⟨v, l, vx, nx, lx, nt, hy, h1, h2, hb⟩ := h
  refine (hc vx nx lx nt hy.x h2).mono fun e w' ⟨vx', nx', lx', nt', he, hl, ho, hat, h3, hg⟩ => ⟨he, v, l, vx', nx', lx', nt', hy.stepX hl ho hat hg, h1, h3, fun b hbm => ?_⟩
  obtain ⟨b1, b2, b3⟩ := hb b hbm
  have hlt := (Array.getElem?_eq_some_iff.1 b1).1
  refine ⟨(ho.block _ hlt b3).trans b1, b2, fun e => ?_⟩
  rcases hat _ e with e | e
  · exact b3 e
  · omega
end

theorem all_old {l l' : List En} {B : Nat} (h : ∀ e ∈ l', e ∈ l) : ∀ e ∈ l', (∃ e0 ∈ l, e0.gv = e.gv) ∨ ∀ q, e.gv.ownBlock = some q → B ≤ q := fun e he => .inl ⟨e, h e he, rfl⟩
theorem set_old {l : List En} {j : Nat} {e e' : En} {B : Nat} (he : l[j]? = some e) (h : e'.gv = e.gv ∨ ∀ q, e'.gv.ownBlock = some q → B ≤ q) : ∀ x ∈ l.set j e', (∃ e0 ∈ l, e0.gv = x.gv) ∨ ∀ q, x.gv.ownBlock = some q → B ≤ q := fun x hx => by
  rcases List.mem_or_eq_of_mem_set hx with hx | rfl
  · exact .inl ⟨x, hx, rfl⟩
  · exact h.imp (fun h => ⟨e, List.mem_of_getElem? he, h.symm⟩) id
theorem map_old {l : List En} {f : En → En} {B : Nat} (h : ∀ e, (f e).gv = e.gv) : ∀ x ∈ l.map f, (∃ e0 ∈ l, e0.gv = x.gv) ∨ ∀ q, x.gv.ownBlock = some q → B ≤ q := fun x hx => by
  obtain ⟨e, he, rfl⟩ := List.mem_map.1 hx
  exact .inl ⟨e, he, (h e).symm⟩
theorem add_old {l : List En} {e : En} {B : Nat} : ∀ x ∈ l ++ [fresh e], (∃ e0 ∈ l, e0.gv = x.gv) ∨ ∀ q, x.gv.ownBlock = some q → B ≤ q := fun x hx => by
  rcases List.mem_append.1 hx with hx | hx
  · exact .inl ⟨x, hx, rfl⟩
  · simp at hx
    subst hx
    exact .inr (fun q hq => by simp [fresh, Value.ownBlock] at hq)
theorem same_s {P : Nat} {v : Value} {B : Nat} : ∀ q, LineS P v q → LineS P v q ∨ B ≤ q := fun _ h => .inl h
theorem same_x {X : Nat} {v n : Value} {B : Nat} : ∀ q, LnxS X v n q → LnxS X v n q ∨ B ≤ q := fun _ h => .inl h
theorem grow_x {X : Nat} {v v2 n : Value} {B : Nat} (hat : v2.ownBlock = v.ownBlock ∨ ∃ q, v2.ownBlock = some q ∧ B ≤ q) : ∀ q, LnxS X v2 n q → LnxS X v n q ∨ B ≤ q := fun q hq => by
  rcases hq with hq | hq | hq
  · exact .inl (.inl hq)
  · rcases hat with hat | ⟨k, hat, hk⟩
    · exact .inl (.inr (.inl (hat ▸ hq)))
    · rw [hat] at hq
      injection hq with hq
      exact .inr (by omega)
  · exact .inl (.inr (.inr hq))

set_option maxRecDepth 100000 in
theorem out (v : Value) (l : List Op10) (w : World) (hl : OpsR w w.heap.size v l) (h : fewB l = false) :
    Calls Try.prog 6 #[v] w fun e w' => e = .returned (.bool true) ∧ Pure w w' := by
  have HL := Lib.hid hl
  have HF := Lib.hid h
  obtain ⟨⟨A, c, rfl, _⟩, _⟩ := hl
  clear h
  go_enter Try.func6, Try.ntmps6
  go_wp2_with fail
  refine (first_look _).mono ?_
  rintro e w1 ⟨rfl, hp1⟩
  have P1 := Lib.hid hp1
  clear hp1
  go_wp2_with fail
  refine (new_any w1).mono ?_
  rintro e w2 ⟨rfl, rfl⟩
  have P2 := Lib.hid (P1.out.alloc (.cells #[.slice none 0 0] 50))
  generalize w1.alloc (.cells #[.slice none 0 0] 50) = W2 at *
  have P3 := Lib.hid (P2.out.alloc (.cells #[.slice none 0 0, .slice none 0 0] 46))
  have L2 := Lib.hid (HL.out.pure P3.out)
  go_wp2_with fail
  refine (few_any _ l _ L2.out).mono ?_
  rw [HF.out]
  rintro e w2 ⟨rfl, rfl⟩
  go_wp2_with fail
  refine (first_look _).mono ?_
  rintro e w2 ⟨rfl, hp2⟩
  have P4 := Lib.hid (Pure.then P3.out hp2)
  clear hp2
  go_wp2_with fail
  go_ret
  exact ⟨rfl, P4.out⟩

theorem Py.start (w W : World) (P : Nat) (hl : LineOf W P (.slice none 0 0) []) (hp : Pure w W) (hP : w.heap.size ≤ P) :
    Py w (W.alloc (.cells #[.slice none 0 0, .slice none 0 0] 46)) P (.slice none 0 0) [] W.heap.size (.slice none 0 0) (.slice none 0 0) [] [] := by
  have hPl := hl.lt P (.inl rfl)
  refine ⟨hl.pure ((Only.refl _ _).alloc _), ⟨heap_alloc_new W _, World.ownsRow_nil _ _ _ _, World.ownsRow_nil _ _ _ _, fun x hx => by simp at hx, fun e he => by simp at he, by simp, fun e he => by simp at he⟩, fun q hq hx => ?_, fun e he => by simp at he, fun e he => by simp at he, fun q hq => ?_, fun q hq => ?_, hp.alloc _⟩
  · rcases hq with rfl | hq
    · rcases hx with hx | hx | hx
      · omega
      · simp [Value.ownBlock] at hx
      · simp [Value.ownBlock] at hx
    · simp [Value.ownBlock] at hq
  · rcases hq with rfl | hq
    · exact hP
    · simp [Value.ownBlock] at hq
  · rcases hq with rfl | hq | hq
    · exact hp.size
    · simp [Value.ownBlock] at hq
    · simp [Value.ownBlock] at hq

theorem built_req (a b c d e f : Int) (A : Option Addr) (n m : Nat) :
    Try.prog.built 28 [(0, .int .i64 a), (1, .int .i64 b), (2, .int .i64 c), (3, .int .i64 d), (4, .int .i64 e), (5, .int .i64 f), (6, .slice A n m)] = some #[.int .i64 a, .int .i64 b, .int .i64 c, .int .i64 d, .int .i64 e, .int .i64 f, .slice A n m] := by kernel_rfl
theorem run_req (a b c d e f : Int) (A : Option Addr) (n m : Nat) (w : World) :
    (Instr.build 28 #[(0, .int .i64 a), (1, .int .i64 b), (2, .int .i64 c), (3, .int .i64 d), (4, .int .i64 e), (5, .int .i64 f), (6, .slice A n m)]).run Try.prog w = .ok (.agg #[.int .i64 a, .int .i64 b, .int .i64 c, .int .i64 d, .int .i64 e, .int .i64 f, .slice A n m]) w :=
  run_build w _ _ _ (built_req a b c d e f A n m)

theorem wp_req {o : Oper} {act : Act} {w : World} {K : Act → World → Prop} {Q : Exit → Act → World → Prop} (x0 x1 x2 x3 x4 x5 x6 : Operand)
    (ho : o.op = .build 28 #[(0, x0), (1, x1), (2, x2), (3, x3), (4, x4), (5, x5), (6, x6)]) (a b c d e f : Int) (A : Option Addr) (n m : Nat)
    (e0 : act.eval x0 = .int .i64 a) (e1 : act.eval x1 = .int .i64 b) (e2 : act.eval x2 = .int .i64 c) (e3 : act.eval x3 = .int .i64 d) (e4 : act.eval x4 = .int .i64 e) (e5 : act.eval x5 = .int .i64 f) (e6 : act.eval x6 = .slice A n m)
    (h : K (act.put o.dst (.agg #[.int .i64 a, .int .i64 b, .int .i64 c, .int .i64 d, .int .i64 e, .int .i64 f, .slice A n m])) w) : o.wp Try.prog act w K Q := by
  have hr := run_req a b c d e f A n m w
  unfold Oper.wp execOp
  simp only [ho, Sem.run_bind, List.map_toArray, List.map_cons, List.map_nil, e0, e1, e2, e3, e4, e5, e6, hr, Result.andThen_ok]
  exact h
set_option maxRecDepth 100000 in
set_option maxHeartbeats 16000000 in
theorem main (v : Value) (l : List Op10) (w : World) (hl : OpsR w w.heap.size v l) (h : fewB l = true) :
    Calls Try.prog 6 #[v] w fun e w' => e = .returned (.bool true) ∧ Pure w w' := by
  have HL := Lib.hid hl
  have HF := Lib.hid h
  obtain ⟨hl200, hsm⟩ := fewB_yes h
  have HSM := Lib.hid hsm
  obtain ⟨⟨A, c, rfl, hlc, hcm, hcells⟩, hops⟩ := hl
  have HC := Lib.hid hcells
  have HO := Lib.hid hops
  clear h hcells hops hsm
  go_enter Try.func6, Try.ntmps6
  go_wp2_with fail
  refine (first_look _).mono ?_
  rintro e w1 ⟨rfl, hp1⟩
  have P1 := Lib.hid hp1
  clear hp1
  go_wp2_with fail
  refine (new_any w1).mono ?_
  rintro e w2 ⟨rfl, rfl⟩
  have P2 := Lib.hid (P1.out.alloc (.cells #[.slice none 0 0] 50))
  have LN := Lib.hid (line_new w1)
  have HP := Lib.hid P1.out.size
  generalize w1.alloc (.cells #[.slice none 0 0] 50) = W2 at *
  generalize w1.heap.size = P at *
  have P3 := Lib.hid (P2.out.alloc (.cells #[.slice none 0 0, .slice none 0 0] 46))
  have L2 := Lib.hid (HL.out.pure P3.out)
  have D0 := Lib.hid (Py.start w W2 P LN.out P2.out HP.out)
  go_wp2_with fail
  generalize W2.alloc (.cells #[.slice none 0 0, .slice none 0 0] 46) = W3 at *
  generalize W2.heap.size = X at *
  refine (few_any _ l _ L2.out).mono ?_
  rw [HF.out]
  rintro e w2 ⟨rfl, rfl⟩
  go_wp2_with fail
  go_loopw [5] (fun i wr => ∃ (k : Nat) (v : Value) (L : List En) (vx nx : Value) (Lx : List En) (nt : List Int), k ≤ l.length ∧ i = .int .i64 k ∧ Py w wr P v L X vx nx Lx nt ∧ PI L Lx nt k) (fun i _ => l.length - (intOf i).toNat)
  case atStart => exact ⟨0, _, [], _, _, [], [], Nat.zero_le _, by first | rfl | simp, D0.out, ⟨rfl, by simp, fun e he => by simp at he, fun t ht => by simp at ht, fun e he => by simp at he, fun e he => by simp at he, Nat.le_refl _, Nat.le_refl _⟩⟩
  case round =>
    obtain ⟨k, v, L, vx, nx, Lx, nt, hk, rfl, hD, hI⟩ := hrel
    have HD := Lib.hid hD
    have HI := Lib.hid hI
    have hL := hI.len
    have hLx := hI.lenx
    have hntl := hI.ntl
    clear hD hI
    by_cases hlt : k < l.length
    · obtain ⟨b, off, hA, hb, hc⟩ := HC.out (by omega)
      subst hA
      obtain ⟨q, hq⟩ : ∃ q, l[k]? = some q := ⟨l[k], List.getElem?_eq_getElem hlt⟩
      obtain ⟨d0, d1, d2, d3, d4, d5⟩ := hc k q hq
      obtain ⟨hsl, hr0, hr1⟩ := HO.out q (List.mem_of_getElem? hq)
      have hxl := HSM.out q (List.mem_of_getElem? hq)
      obtain ⟨AX, cX, hv, _, _⟩ := hsl.len
      rw [hv] at d5 hsl
      have HSL := Lib.hid (fun (w' : World) (hp : Pure w w') => hsl.only hp (fun _ _ f => f))
      have e0 := HD.out.pure.keep d0
      have e1 := HD.out.pure.keep d1
      have e2 := HD.out.pure.keep d2
      have e3 := HD.out.pure.keep d3
      have e4 := HD.out.pure.keep d4
      have e5 := HD.out.pure.keep d5
      have hlt' : (k : Int) < (l.length : Int) := by omega
      clear d0 d1 d2 d3 d4 d5 hc hv hsl hq
      go_upto_block 2 with fail
      have hy := heap_alloc_new wr (.cells #[.int .i64 q.kind, .int .i64 q.thread, .int .i64 q.frags, .int .i64 q.spine, .int .i64 q.at_, .slice AX q.xs.length cX] 37)
      have HYL := Lib.hid (show ¬ LineS P v wr.heap.size from fun e => by have := HD.out.p.lt _ e; omega)
      have HYX := Lib.hid (show ¬ LnxS X vx nx wr.heap.size from fun e => by have := HD.out.x.lt _ e; omega)
      have D4 := Lib.hid (HD.out.keep ((Only.refl _ _).alloc (.cells #[.int .i64 q.kind, .int .i64 q.thread, .int .i64 q.frags, .int .i64 q.spine, .int .i64 q.at_, .slice AX q.xs.length cX] 37)))
      generalize wr.alloc (.cells #[.int .i64 q.kind, .int .i64 q.thread, .int .i64 q.frags, .int .i64 q.spine, .int .i64 q.at_, .slice AX q.xs.length cX] 37) = W4 at *
      generalize wr.heap.size = Y at *
      have y0 : W4.cell? ⟨Y, 0, none⟩ = some (.int .i64 q.kind) := by rw [cell_of_row _ _ _ _ _ _ hy]; rfl
      have y1 : W4.cell? ⟨Y, 1, none⟩ = some (.int .i64 q.thread) := by rw [cell_of_row _ _ _ _ _ _ hy]; rfl
      have y2 : W4.cell? ⟨Y, 2, none⟩ = some (.int .i64 q.frags) := by rw [cell_of_row _ _ _ _ _ _ hy]; rfl
      have y3 : W4.cell? ⟨Y, 3, none⟩ = some (.int .i64 q.spine) := by rw [cell_of_row _ _ _ _ _ _ hy]; rfl
      have y4 : W4.cell? ⟨Y, 4, none⟩ = some (.int .i64 q.at_) := by rw [cell_of_row _ _ _ _ _ _ hy]; rfl
      have y5 : W4.cell? ⟨Y, 5, none⟩ = some (.slice AX q.xs.length cX) := by rw [cell_of_row _ _ _ _ _ _ hy]; rfl
      have HY := Lib.hid hy
      clear hy e0 e1 e2 e3 e4 e5
      go_cut [7] (fun s7 wx => s7 = .bool true ∧ wx.heap[Y]? = some (.cells #[.int .i64 q.kind, .int .i64 q.thread, .int .i64 q.frags, .int .i64 q.spine, .int .i64 q.at_, .slice AX q.xs.length cX] 37 (0, 0)) ∧ ∃ (v2 : Value) (L2 : List En) (vx2 nx2 : Value) (Lx2 : List En) (nt2 : List Int), Py w wx P v2 L2 X vx2 nx2 Lx2 nt2 ∧ PI L2 Lx2 nt2 (k + 1))
      case first =>
        rcases (by omega : q.kind = 0 ∨ q.kind = 1 ∨ q.kind = 2 ∨ q.kind = 3 ∨ q.kind = 4 ∨ q.kind = 5 ∨ (q.kind ≠ 0 ∧ q.kind ≠ 1 ∧ q.kind ≠ 2 ∧ q.kind ≠ 3 ∧ q.kind ≠ 4 ∧ q.kind ≠ 5)) with hq | hq | hq | hq | hq | hq | hq
        · have hq0 := hq
          have z0 : (q.kind == 0) = true := by rw [hq]; rfl
          clear hq0 hq
          as_aux_lemma =>
            go_upto_region 13 with fail
            iterate 44 go_step
            refine wp_req _ _ _ _ _ _ _ rfl q.thread q.frags q.spine q.at_ q.at_ q.at_ AX q.xs.length cX rfl rfl rfl rfl rfl rfl rfl ?_
            go_upto_region 14 with fail
            have D5 := Lib.hid (D4.out.keep ((Only.refl _ _).alloc (.cells #[.int .i64 q.thread, .int .i64 q.frags, .int .i64 q.spine, .int .i64 q.at_, .int .i64 q.at_, .int .i64 q.at_, .slice AX q.xs.length cX] 28)))
            have HY5 := Lib.hid ((((Only.refl (fun _ => False) W4).alloc (.cells #[.int .i64 q.thread, .int .i64 q.frags, .int .i64 q.spine, .int .i64 q.at_, .int .i64 q.at_, .int .i64 q.at_, .slice AX q.xs.length cX] 28)).block Y (Array.getElem?_eq_some_iff.1 HY.out).1 (fun f => f)).trans HY.out)
            have HR5 := Lib.hid (heap_alloc_new W4 (.cells #[.int .i64 q.thread, .int .i64 q.frags, .int .i64 q.spine, .int .i64 q.at_, .int .i64 q.at_, .int .i64 q.at_, .slice AX q.xs.length cX] 28))
            have HRL := Lib.hid (show ¬ LineS P v W4.heap.size from fun e => by have := D4.out.p.lt _ e; omega)
            have HRX := Lib.hid (show ¬ LnxS X vx nx W4.heap.size from fun e => by have := D4.out.x.lt _ e; omega)
            clear y0 y1 y2 y3 y4 y5
            generalize W4.alloc (.cells #[.int .i64 q.thread, .int .i64 q.frags, .int .i64 q.spine, .int .i64 q.at_, .int .i64 q.at_, .int .i64 q.at_, .slice AX q.xs.length cX] 28) = W5 at *
            generalize W4.heap.size = R at *
            by_cases hin : q.thread ∈ L.map En.thread
            · have HIX := Lib.hid (ix_old hin)
              have HIXX := Lib.hid (show 0 ≤ ixI (isT q.thread) Lx from by rw [core_ix (isT q.thread) (fun _ => rfl) HI.out.eq]; exact ix_old hin)
              clear hin
              refine region_class (fun w' => Py w w' P v L X vx nx Lx nt ∧ w'.heap[Y]? = some (.cells #[.int .i64 q.kind, .int .i64 q.thread, .int .i64 q.frags, .int .i64 q.spine, .int .i64 q.at_, .slice AX q.xs.length cX] 37 (0, 0)) ∧ w'.heap[R]? = some (.cells #[.int .i64 q.thread, .int .i64 q.frags, .int .i64 q.spine, .int .i64 q.at_, .int .i64 q.at_, .int .i64 q.at_, .slice AX q.xs.length cX] 28 (0, 0))) ⟨D5.out.keep (drew_pure _), HY5.out, HR5.out⟩ (by kernel_rfl) (by kernel_rfl) ?_
              intro S f hS hf hmk
              have c0 : ∀ s, (f s).cell? ⟨R, 0, none⟩ = some (.int .i64 q.thread) := fun s => by rw [cell_of_row _ _ _ _ _ _ (hf s).2.2]; rfl
              have c1 : ∀ s, (f s).cell? ⟨R, 1, none⟩ = some (.int .i64 q.frags) := fun s => by rw [cell_of_row _ _ _ _ _ _ (hf s).2.2]; rfl
              have c2 : ∀ s, (f s).cell? ⟨R, 2, none⟩ = some (.int .i64 q.spine) := fun s => by rw [cell_of_row _ _ _ _ _ _ (hf s).2.2]; rfl
              have c3 : ∀ s, (f s).cell? ⟨R, 3, none⟩ = some (.int .i64 q.at_) := fun s => by rw [cell_of_row _ _ _ _ _ _ (hf s).2.2]; rfl
              have c4 : ∀ s, (f s).cell? ⟨R, 4, none⟩ = some (.int .i64 q.at_) := fun s => by rw [cell_of_row _ _ _ _ _ _ (hf s).2.2]; rfl
              have c5 : ∀ s, (f s).cell? ⟨R, 5, none⟩ = some (.int .i64 q.at_) := fun s => by rw [cell_of_row _ _ _ _ _ _ (hf s).2.2]; rfl
              have c6 : ∀ s, (f s).cell? ⟨R, 6, none⟩ = some (.slice AX q.xs.length cX) := fun s => by rw [cell_of_row _ _ _ _ _ _ (hf s).2.2]; rfl
              have HF := Lib.hid hf
              have HM := Lib.hid hmk
              clear hf hmk
              repeat (go_big_quiet_step ((first | (go_at_call 9; exact class_call HM.out (HF.out _) (fun _ hd hp => ⟨hd.1.keep hp, ((hp.block Y (Array.getElem?_eq_some_iff.1 hd.2.1).1 (fun f => f)).trans hd.2.1), ((hp.block R (Array.getElem?_eq_some_iff.1 hd.2.2).1 (fun f => f)).trans hd.2.2)⟩) (add_no P v L (⟨q.thread, q.frags, q.spine, q.at_, q.at_, q.at_, .slice none 0 0, [], false⟩ : En) AX q.xs.length cX _ (HF.out _).1.p HIX.out)) | (go_at_call 22; exact class_call HM.out (HF.out _) (fun _ hd hp => ⟨hd.1.keep hp, ((hp.block Y (Array.getElem?_eq_some_iff.1 hd.2.1).1 (fun f => f)).trans hd.2.1), ((hp.block R (Array.getElem?_eq_some_iff.1 hd.2.2).1 (fun f => f)).trans hd.2.2)⟩) (addx_no X vx nx Lx nt (⟨q.thread, q.frags, q.spine, q.at_, q.at_, q.at_, .slice none 0 0, [], false⟩ : En) AX q.xs.length cX _ (HF.out _).1.x HIXX.out)))))
              refine wpQuiet_nil ?_
              rintro w9 ⟨s9, e9⟩
              have D9 := Lib.hid (HF.out s9)
              rw [← e9] at D9
              clear e9 HF HM hS s9
              go_wp2_with fail
              go_meet
              exact ⟨rfl, D9.out.2.1, v, L, vx, nx, Lx, nt, D9.out.1, HI.out.more⟩
            · have HNI := Lib.hid hin
              have HIX := Lib.hid (ix_new hin)
              have HIXX := Lib.hid ((core_ix (isT q.thread) (fun _ => rfl) HI.out.eq).trans (ix_new hin))
              clear hin
              have GP := Lib.hid (show ∀ (fl : Bool) (w' : World), Hid (PP w P X [(Y, .cells #[.int .i64 q.kind, .int .i64 q.thread, .int .i64 q.frags, .int .i64 q.spine, .int .i64 q.at_, .slice AX q.xs.length cX] 37 (0, 0)), (R, .cells #[.int .i64 q.thread, .int .i64 q.frags, .int .i64 q.spine, .int .i64 q.at_, .int .i64 q.at_, .int .i64 q.at_, .slice AX q.xs.length cX] 28 (0, 0))] (fun s l => cond s (l = L ++ [fresh (⟨q.thread, q.frags, q.spine, q.at_, q.at_, q.at_, .slice none 0 0, [], false⟩ : En)]) (l = L)) (fun s l n => cond s (l = Lx ++ [fresh (⟨q.thread, q.frags, q.spine, q.at_, q.at_, q.at_, .slice none 0 0, [], false⟩ : En)] ∧ n = nt) (l = Lx ∧ n = nt)) false fl w') → Calls Try.prog 9 #[.pointer (some ⟨P, 0, none⟩), .agg #[.int .i64 q.thread, .int .i64 q.frags, .int .i64 q.spine, .int .i64 q.at_, .int .i64 q.at_, .int .i64 q.at_, .slice AX q.xs.length cX]] w' fun er w'' => er = .returned (.bool true) ∧ (w''.cell? ⟨R, 0, none⟩ = some (.int .i64 q.thread) ∧ w''.cell? ⟨R, 1, none⟩ = some (.int .i64 q.frags) ∧ w''.cell? ⟨R, 2, none⟩ = some (.int .i64 q.spine) ∧ w''.cell? ⟨R, 3, none⟩ = some (.int .i64 q.at_) ∧ w''.cell? ⟨R, 4, none⟩ = some (.int .i64 q.at_) ∧ w''.cell? ⟨R, 5, none⟩ = some (.int .i64 q.at_) ∧ w''.cell? ⟨R, 6, none⟩ = some (.slice AX q.xs.length cX)) ∧ Hid (PP w P X [(Y, .cells #[.int .i64 q.kind, .int .i64 q.thread, .int .i64 q.frags, .int .i64 q.spine, .int .i64 q.at_, .slice AX q.xs.length cX] 37 (0, 0)), (R, .cells #[.int .i64 q.thread, .int .i64 q.frags, .int .i64 q.spine, .int .i64 q.at_, .int .i64 q.at_, .int .i64 q.at_, .slice AX q.xs.length cX] 28 (0, 0))] (fun s l => cond s (l = L ++ [fresh (⟨q.thread, q.frags, q.spine, q.at_, q.at_, q.at_, .slice none 0 0, [], false⟩ : En)]) (l = L)) (fun s l n => cond s (l = Lx ++ [fresh (⟨q.thread, q.frags, q.spine, q.at_, q.at_, q.at_, .slice none 0 0, [], false⟩ : En)] ∧ n = nt) (l = Lx ∧ n = nt)) true fl w'') from fun fl w' h =>
                (h.out.doP (fun v' l' hl' hL' => by
                  have hL'' : l' = L := hL'
                  subst hL''
                  exact (add_yes P v' _ (⟨q.thread, q.frags, q.spine, q.at_, q.at_, q.at_, .slice none 0 0, [], false⟩ : En) AX q.xs.length cX w' hl' HIX.out (by omega)).mono fun er w'' ⟨v2, he, hl, ho, hb⟩ => ⟨v2, _, he, hl, ho, grow_s hb, rfl, add_old⟩)).mono fun er w'' ⟨he, hp⟩ => ⟨he, by have hb := hp.blk (q := R) (List.mem_cons_of_mem _ (List.mem_singleton.2 rfl)); exact ⟨by rw [cell_of_row _ _ _ _ _ _ hb]; rfl, by rw [cell_of_row _ _ _ _ _ _ hb]; rfl, by rw [cell_of_row _ _ _ _ _ _ hb]; rfl, by rw [cell_of_row _ _ _ _ _ _ hb]; rfl, by rw [cell_of_row _ _ _ _ _ _ hb]; rfl, by rw [cell_of_row _ _ _ _ _ _ hb]; rfl, by rw [cell_of_row _ _ _ _ _ _ hb]; rfl⟩, Lib.hid hp⟩)
              have GX := Lib.hid (show ∀ (fl : Bool) (w' : World), Hid (PP w P X [(Y, .cells #[.int .i64 q.kind, .int .i64 q.thread, .int .i64 q.frags, .int .i64 q.spine, .int .i64 q.at_, .slice AX q.xs.length cX] 37 (0, 0)), (R, .cells #[.int .i64 q.thread, .int .i64 q.frags, .int .i64 q.spine, .int .i64 q.at_, .int .i64 q.at_, .int .i64 q.at_, .slice AX q.xs.length cX] 28 (0, 0))] (fun s l => cond s (l = L ++ [fresh (⟨q.thread, q.frags, q.spine, q.at_, q.at_, q.at_, .slice none 0 0, [], false⟩ : En)]) (l = L)) (fun s l n => cond s (l = Lx ++ [fresh (⟨q.thread, q.frags, q.spine, q.at_, q.at_, q.at_, .slice none 0 0, [], false⟩ : En)] ∧ n = nt) (l = Lx ∧ n = nt)) fl false w') → Calls Try.prog 22 #[.pointer (some ⟨X, 0, none⟩), .agg #[.int .i64 q.thread, .int .i64 q.frags, .int .i64 q.spine, .int .i64 q.at_, .int .i64 q.at_, .int .i64 q.at_, .slice AX q.xs.length cX]] w' fun er w'' => er = .returned (.bool true) ∧ (w''.cell? ⟨R, 0, none⟩ = some (.int .i64 q.thread) ∧ w''.cell? ⟨R, 1, none⟩ = some (.int .i64 q.frags) ∧ w''.cell? ⟨R, 2, none⟩ = some (.int .i64 q.spine) ∧ w''.cell? ⟨R, 3, none⟩ = some (.int .i64 q.at_) ∧ w''.cell? ⟨R, 4, none⟩ = some (.int .i64 q.at_) ∧ w''.cell? ⟨R, 5, none⟩ = some (.int .i64 q.at_) ∧ w''.cell? ⟨R, 6, none⟩ = some (.slice AX q.xs.length cX)) ∧ Hid (PP w P X [(Y, .cells #[.int .i64 q.kind, .int .i64 q.thread, .int .i64 q.frags, .int .i64 q.spine, .int .i64 q.at_, .slice AX q.xs.length cX] 37 (0, 0)), (R, .cells #[.int .i64 q.thread, .int .i64 q.frags, .int .i64 q.spine, .int .i64 q.at_, .int .i64 q.at_, .int .i64 q.at_, .slice AX q.xs.length cX] 28 (0, 0))] (fun s l => cond s (l = L ++ [fresh (⟨q.thread, q.frags, q.spine, q.at_, q.at_, q.at_, .slice none 0 0, [], false⟩ : En)]) (l = L)) (fun s l n => cond s (l = Lx ++ [fresh (⟨q.thread, q.frags, q.spine, q.at_, q.at_, q.at_, .slice none 0 0, [], false⟩ : En)] ∧ n = nt) (l = Lx ∧ n = nt)) fl true w'') from fun fl w' h =>
                (h.out.doX (fun vx' nx' lx' nt' hl' hL' => by
                  obtain ⟨h1, h2⟩ : lx' = Lx ∧ nt' = nt := hL'
                  subst h1 h2
                  exact (addx_yes X vx' nx' _ _ (⟨q.thread, q.frags, q.spine, q.at_, q.at_, q.at_, .slice none 0 0, [], false⟩ : En) AX q.xs.length cX w' hl' HIXX.out (by omega)).mono fun er w'' ⟨v2, he, hl, ho, hat⟩ => ⟨v2, nx', _, _, he, hl, ho, grow_x hat, ⟨rfl, rfl⟩, add_old⟩)).mono fun er w'' ⟨he, hp⟩ => ⟨he, by have hb := hp.blk (q := R) (List.mem_cons_of_mem _ (List.mem_singleton.2 rfl)); exact ⟨by rw [cell_of_row _ _ _ _ _ _ hb]; rfl, by rw [cell_of_row _ _ _ _ _ _ hb]; rfl, by rw [cell_of_row _ _ _ _ _ _ hb]; rfl, by rw [cell_of_row _ _ _ _ _ _ hb]; rfl, by rw [cell_of_row _ _ _ _ _ _ hb]; rfl, by rw [cell_of_row _ _ _ _ _ _ hb]; rfl, by rw [cell_of_row _ _ _ _ _ _ hb]; rfl⟩, Lib.hid hp⟩)
              have hPP : Hid (PP w P X [(Y, .cells #[.int .i64 q.kind, .int .i64 q.thread, .int .i64 q.frags, .int .i64 q.spine, .int .i64 q.at_, .slice AX q.xs.length cX] 37 (0, 0)), (R, .cells #[.int .i64 q.thread, .int .i64 q.frags, .int .i64 q.spine, .int .i64 q.at_, .int .i64 q.at_, .int .i64 q.at_, .slice AX q.xs.length cX] 28 (0, 0))] (fun s l => cond s (l = L ++ [fresh (⟨q.thread, q.frags, q.spine, q.at_, q.at_, q.at_, .slice none 0 0, [], false⟩ : En)]) (l = L)) (fun s l n => cond s (l = Lx ++ [fresh (⟨q.thread, q.frags, q.spine, q.at_, q.at_, q.at_, .slice none 0 0, [], false⟩ : En)] ∧ n = nt) (l = Lx ∧ n = nt)) false false W5.drew) := Lib.hid ⟨v, L, vx, nx, Lx, nt, D5.out.keep (drew_pure _), rfl, ⟨rfl, rfl⟩, fun b hb => by
                simp only [List.mem_cons, List.not_mem_nil, or_false] at hb
                rcases hb with rfl | rfl
                · exact ⟨HY5.out, HYL.out, HYX.out⟩
                · exact ⟨HR5.out, HRL.out, HRX.out⟩⟩
              obtain ⟨r0, r1, r2, r3, r4, r5, r6, _⟩ := seven HR5.out
              go_region_held3 (fun w' => w'.cell? ⟨R, 0, none⟩ = some (.int .i64 q.thread) ∧ w'.cell? ⟨R, 1, none⟩ = some (.int .i64 q.frags) ∧ w'.cell? ⟨R, 2, none⟩ = some (.int .i64 q.spine) ∧ w'.cell? ⟨R, 3, none⟩ = some (.int .i64 q.at_) ∧ w'.cell? ⟨R, 4, none⟩ = some (.int .i64 q.at_) ∧ w'.cell? ⟨R, 5, none⟩ = some (.int .i64 q.at_) ∧ w'.cell? ⟨R, 6, none⟩ = some (.slice AX q.xs.length cX)) (first | assumption | go_keep)
                (first | (go_at_call 9; refine (GP.out _ _ (by assumption)).mono ?_; rintro e w' ⟨rfl, hs, hpp⟩)
                       | (go_at_call 22; refine (GX.out _ _ (by assumption)).mono ?_; rintro e w' ⟨rfl, hs, hpp⟩))
              all_goals
                go_wp2_with fail
                go_meet
                obtain ⟨v2, l2, vx2, nx2, lx2, nt2, hPy, hgv, ⟨hgx, hnt⟩, hb⟩ := hpp.out
                subst hgv hgx hnt
                exact ⟨rfl, (hb _ (List.mem_cons_self ..)).1, _, _, _, _, _, _, hPy, HI.out.add _ HNI.out ⟨hr0, hr1⟩⟩
        · have hq0 := hq
          have z0 : (q.kind == 0) = false := by rw [hq]; rfl
          have z1 : (q.kind == 1) = true := by rw [hq]; rfl
          clear hq0 hq
          as_aux_lemma =>
            clear y0 y1 y2 y3
            rcases ix_w isW L with hix | ⟨j, eE, he, hw, hix⟩
            · have HIX := Lib.hid hix
              have HIXX := Lib.hid ((core_ix isW (fun _ => rfl) HI.out.eq).trans hix)
              clear hix
              go_upto_region 16 with fail
              clear y4 y5
              refine region_class (fun w' => Py w w' P v L X vx nx Lx nt ∧ w'.heap[Y]? = some (.cells #[.int .i64 q.kind, .int .i64 q.thread, .int .i64 q.frags, .int .i64 q.spine, .int .i64 q.at_, .slice AX q.xs.length cX] 37 (0, 0))) ⟨D4.out.keep (drew_pure _), HY.out⟩ (by kernel_rfl) (by kernel_rfl) ?_
              intro S f hS hf hmk
              have c4 : ∀ s, (f s).cell? ⟨Y, 4, none⟩ = some (.int .i64 q.at_) := fun s => by rw [cell_of_row _ _ _ _ _ _ (hf s).2]; rfl
              have c5 : ∀ s, (f s).cell? ⟨Y, 5, none⟩ = some (.slice AX q.xs.length cX) := fun s => by rw [cell_of_row _ _ _ _ _ _ (hf s).2]; rfl
              have HF := Lib.hid hf
              have HM := Lib.hid hmk
              clear hf hmk
              repeat (go_big_quiet_step ((first | (go_at_call 14; exact class_call HM.out (HF.out _) (fun _ hd hp => ⟨hd.1.keep hp, ((hp.block Y (Array.getElem?_eq_some_iff.1 hd.2).1 (fun f => f)).trans hd.2)⟩) (grant_no P v L _ _ _ q.at_ _ (HF.out _).1.p HIX.out)) | (go_at_call 23; exact class_call HM.out (HF.out _) (fun _ hd hp => ⟨hd.1.keep hp, ((hp.block Y (Array.getElem?_eq_some_iff.1 hd.2).1 (fun f => f)).trans hd.2)⟩) (grantx_no X vx nx Lx nt _ _ _ q.at_ _ (HF.out _).1.x HIXX.out)))))
              refine wpQuiet_nil ?_
              rintro w9 ⟨s9, e9⟩
              have D9 := Lib.hid (HF.out s9)
              rw [← e9] at D9
              clear e9 HF HM hS s9
              go_wp2_with fail
              go_meet
              exact ⟨rfl, D9.out.2, v, L, vx, nx, Lx, nt, D9.out.1, HI.out.more⟩
            · obtain ⟨xE, hx, hcx⟩ := core_get HI.out.eq he
              have HIX := Lib.hid hix
              have HIXX := Lib.hid ((core_ix isW (fun _ => rfl) HI.out.eq).trans hix)
              have HE := Lib.hid he
              have HX := Lib.hid hx
              have HCX := Lib.hid hcx
              clear hix he hx hcx hw
              have GP := Lib.hid (show ∀ (fl : Bool) (w' : World), Hid (PP w P X [(Y, .cells #[.int .i64 q.kind, .int .i64 q.thread, .int .i64 q.frags, .int .i64 q.spine, .int .i64 q.at_, .slice AX q.xs.length cX] 37 (0, 0))] (fun s l => cond s (∃ gv, l = L.set j (granted eE gv q.xs q.at_)) (l = L)) (fun s l n => cond s (∃ gv, l = Lx.set j (granted xE gv q.xs q.at_) ∧ n = nt) (l = Lx ∧ n = nt)) false fl w') → Calls Try.prog 14 #[.pointer (some ⟨P, 0, none⟩), .slice AX q.xs.length cX, .int .i64 q.at_] w' fun er w'' => er = .returned (.bool true) ∧ (w''.cell? ⟨Y, 4, none⟩ = some (.int .i64 q.at_) ∧ w''.cell? ⟨Y, 5, none⟩ = some (.slice AX q.xs.length cX)) ∧ Hid (PP w P X [(Y, .cells #[.int .i64 q.kind, .int .i64 q.thread, .int .i64 q.frags, .int .i64 q.spine, .int .i64 q.at_, .slice AX q.xs.length cX] 37 (0, 0))] (fun s l => cond s (∃ gv, l = L.set j (granted eE gv q.xs q.at_)) (l = L)) (fun s l n => cond s (∃ gv, l = Lx.set j (granted xE gv q.xs q.at_) ∧ n = nt) (l = Lx ∧ n = nt)) true fl w'') from fun fl w' h =>
                (h.out.doP (fun v' l' hl' hL' => by
                  have hL'' : l' = L := hL'
                  subst hL''
                  exact (grant_yes P v' _ j eE _ q.xs q.at_ w' hl' HE.out HIX.out (HSL.out _ h.out.pure) (by omega)).mono fun er w'' ⟨gv, he, hl, ho, hgv⟩ => ⟨_, _, he, hl, ho, same_s, ⟨gv, rfl⟩, set_old HE.out (.inr hgv)⟩)).mono fun er w'' ⟨he, hp⟩ => ⟨he, by have hb := hp.blk (q := Y) (List.mem_singleton.2 rfl); exact ⟨by rw [cell_of_row _ _ _ _ _ _ hb]; rfl, by rw [cell_of_row _ _ _ _ _ _ hb]; rfl⟩, Lib.hid hp⟩)
              have GX := Lib.hid (show ∀ (fl : Bool) (w' : World), Hid (PP w P X [(Y, .cells #[.int .i64 q.kind, .int .i64 q.thread, .int .i64 q.frags, .int .i64 q.spine, .int .i64 q.at_, .slice AX q.xs.length cX] 37 (0, 0))] (fun s l => cond s (∃ gv, l = L.set j (granted eE gv q.xs q.at_)) (l = L)) (fun s l n => cond s (∃ gv, l = Lx.set j (granted xE gv q.xs q.at_) ∧ n = nt) (l = Lx ∧ n = nt)) fl false w') → Calls Try.prog 23 #[.pointer (some ⟨X, 0, none⟩), .slice AX q.xs.length cX, .int .i64 q.at_] w' fun er w'' => er = .returned (.bool true) ∧ (w''.cell? ⟨Y, 4, none⟩ = some (.int .i64 q.at_) ∧ w''.cell? ⟨Y, 5, none⟩ = some (.slice AX q.xs.length cX)) ∧ Hid (PP w P X [(Y, .cells #[.int .i64 q.kind, .int .i64 q.thread, .int .i64 q.frags, .int .i64 q.spine, .int .i64 q.at_, .slice AX q.xs.length cX] 37 (0, 0))] (fun s l => cond s (∃ gv, l = L.set j (granted eE gv q.xs q.at_)) (l = L)) (fun s l n => cond s (∃ gv, l = Lx.set j (granted xE gv q.xs q.at_) ∧ n = nt) (l = Lx ∧ n = nt)) fl true w'') from fun fl w' h =>
                (h.out.doX (fun vx' nx' lx' nt' hl' hL' => by
                  obtain ⟨h1, h2⟩ : lx' = Lx ∧ nt' = nt := hL'
                  subst h1 h2
                  exact (grantx_yes X vx' nx' _ _ j xE _ q.xs q.at_ w' hl' HX.out HIXX.out (HSL.out _ h.out.pure) (by omega)).mono fun er w'' ⟨gv, he, hl, ho, hgv⟩ => ⟨_, _, _, _, he, hl, ho, same_x, ⟨gv, rfl, rfl⟩, set_old HX.out (.inr hgv)⟩)).mono fun er w'' ⟨he, hp⟩ => ⟨he, by have hb := hp.blk (q := Y) (List.mem_singleton.2 rfl); exact ⟨by rw [cell_of_row _ _ _ _ _ _ hb]; rfl, by rw [cell_of_row _ _ _ _ _ _ hb]; rfl⟩, Lib.hid hp⟩)
              have hPP : Hid (PP w P X [(Y, .cells #[.int .i64 q.kind, .int .i64 q.thread, .int .i64 q.frags, .int .i64 q.spine, .int .i64 q.at_, .slice AX q.xs.length cX] 37 (0, 0))] (fun s l => cond s (∃ gv, l = L.set j (granted eE gv q.xs q.at_)) (l = L)) (fun s l n => cond s (∃ gv, l = Lx.set j (granted xE gv q.xs q.at_) ∧ n = nt) (l = Lx ∧ n = nt)) false false W4.drew) := Lib.hid ⟨v, L, vx, nx, Lx, nt, D4.out.keep (drew_pure _), rfl, ⟨rfl, rfl⟩, fun b hb => by
                simp only [List.mem_singleton] at hb
                subst hb
                exact ⟨HY.out, HYL.out, HYX.out⟩⟩
              go_upto_region 16 with fail
              go_region_held3 (fun w' => w'.cell? ⟨Y, 4, none⟩ = some (.int .i64 q.at_) ∧ w'.cell? ⟨Y, 5, none⟩ = some (.slice AX q.xs.length cX)) (first | assumption | go_keep)
                (first | (go_at_call 14; refine (GP.out _ _ (by assumption)).mono ?_; rintro e w' ⟨rfl, hs, hpp⟩)
                       | (go_at_call 23; refine (GX.out _ _ (by assumption)).mono ?_; rintro e w' ⟨rfl, hs, hpp⟩))
              all_goals
                go_wp2_with fail
                go_meet
                obtain ⟨v2, l2, vx2, nx2, lx2, nt2, hPy, ⟨gv, hgv⟩, ⟨gx, hgx, hnt⟩, hb⟩ := hpp.out
                subst hgv hgx hnt
                exact ⟨rfl, (hb _ (List.mem_singleton.2 rfl)).1, _, _, _, _, _, _, hPy, HI.out.done HE.out (by have := HCX.out; simp only [core, granted, En.mk.injEq] at this ⊢; simp [this]) rfl rfl rfl⟩
        · have hq0 := hq
          have z0 : (q.kind == 0) = false := by rw [hq]; rfl
          have z1 : (q.kind == 1) = false := by rw [hq]; rfl
          have z2 : (q.kind == 2) = true := by rw [hq]; rfl
          clear hq0 hq
          as_aux_lemma =>
            clear y0 y1 y2 y3 y4 y5
            rcases ix_w isW L with hix | ⟨j, e, he, hw, hix⟩
            · have HIX := Lib.hid hix
              clear hix
              go_wp2_with fail
              refine (fail_no P v L _ D4.out.p HIX.out).mono ?_
              rintro e w5 ⟨rfl, hp5⟩
              have D5 := Lib.hid (D4.out.keep hp5)
              have HY5 := Lib.hid ((hp5.block Y (Array.getElem?_eq_some_iff.1 HY.out).1 (fun f => f)).trans HY.out)
              clear hp5
              go_wp2_with fail
              refine (failx_no X vx nx Lx nt _ D5.out.x ((core_ix isW (fun _ => rfl) HI.out.eq).trans HIX.out)).mono ?_
              rintro e w6 ⟨rfl, hp6⟩
              have D6 := Lib.hid (D5.out.keep hp6)
              have HY6 := Lib.hid ((hp6.block Y (Array.getElem?_eq_some_iff.1 HY5.out).1 (fun f => f)).trans HY5.out)
              clear hp6
              go_wp2_with fail
              go_meet
              exact ⟨rfl, HY6.out, v, L, vx, nx, Lx, nt, D6.out, HI.out.more⟩
            · obtain ⟨x, hx, hcx⟩ := core_get HI.out.eq he
              have HIX := Lib.hid hix
              have HE := Lib.hid he
              have HX := Lib.hid hx
              have HCX := Lib.hid hcx
              clear hix he hx hcx hw
              go_wp2_with fail
              refine (fail_yes P v L j e _ D4.out.p HE.out HIX.out).mono ?_
              rintro e5 w5 ⟨rfl, hl5, ho5⟩
              have D5 := Lib.hid (D4.out.stepP hl5 ho5 same_s (set_old HE.out (.inl rfl)))
              have HY5 := Lib.hid ((ho5.block Y (Array.getElem?_eq_some_iff.1 HY.out).1 HYL.out).trans HY.out)
              clear hl5 ho5
              go_wp2_with fail
              refine (failx_yes X vx nx Lx nt j x _ D5.out.x HX.out ((core_ix isW (fun _ => rfl) HI.out.eq).trans HIX.out)).mono ?_
              rintro e5 w6 ⟨rfl, hl6, ho6⟩
              have D6 := Lib.hid (D5.out.stepX hl6 ho6 same_x (set_old HX.out (.inl rfl)))
              have HY6 := Lib.hid ((ho6.block Y (Array.getElem?_eq_some_iff.1 HY5.out).1 HYX.out).trans HY5.out)
              clear hl6 ho6
              go_wp2_with fail
              go_meet
              exact ⟨rfl, HY6.out, _, _, _, _, _, _, D6.out, HI.out.done HE.out (by have := HCX.out; simp only [core, failed, En.mk.injEq] at this ⊢; simp [this]) rfl rfl rfl⟩
        · have hq0 := hq
          have z0 : (q.kind == 0) = false := by rw [hq]; rfl
          have z1 : (q.kind == 1) = false := by rw [hq]; rfl
          have z2 : (q.kind == 2) = false := by rw [hq]; rfl
          have z3 : (q.kind == 3) = true := by rw [hq]; rfl
          clear hq0 hq
          as_aux_lemma =>
            clear y0 y2 y3 y4 y5
            rcases ix_w (isT q.thread) L with hix | ⟨j, eE, he, hw, hix⟩
            · have HIX := Lib.hid hix
              have HIXX := Lib.hid ((core_ix (isT q.thread) (fun _ => rfl) HI.out.eq).trans hix)
              clear hix
              go_upto_region 20 with fail
              clear y1
              refine region_class (fun w' => Py w w' P v L X vx nx Lx nt ∧ w'.heap[Y]? = some (.cells #[.int .i64 q.kind, .int .i64 q.thread, .int .i64 q.frags, .int .i64 q.spine, .int .i64 q.at_, .slice AX q.xs.length cX] 37 (0, 0))) ⟨D4.out.keep (drew_pure _), HY.out⟩ (by kernel_rfl) (by kernel_rfl) ?_
              intro S f hS hf hmk
              have c1 : ∀ s, (f s).cell? ⟨Y, 1, none⟩ = some (.int .i64 q.thread) := fun s => by rw [cell_of_row _ _ _ _ _ _ (hf s).2]; rfl
              have HF := Lib.hid hf
              have HM := Lib.hid hmk
              clear hf hmk
              repeat (go_big_quiet_step ((first | (go_at_call 10; exact class_call HM.out (HF.out _) (fun _ hd hp => ⟨hd.1.keep hp, ((hp.block Y (Array.getElem?_eq_some_iff.1 hd.2).1 (fun f => f)).trans hd.2)⟩) (drop_no P v L q.thread _ (HF.out _).1.p HIX.out)) | (go_at_call 25; exact class_call HM.out (HF.out _) (fun _ hd hp => ⟨hd.1.keep hp, ((hp.block Y (Array.getElem?_eq_some_iff.1 hd.2).1 (fun f => f)).trans hd.2)⟩) (dropx_no X vx nx Lx nt q.thread _ (HF.out _).1.x HIXX.out)))))
              refine wpQuiet_nil ?_
              rintro w9 ⟨s9, e9⟩
              have D9 := Lib.hid (HF.out s9)
              rw [← e9] at D9
              clear e9 HF HM hS s9
              go_wp2_with fail
              go_meet
              exact ⟨rfl, D9.out.2, v, L, vx, nx, Lx, nt, D9.out.1, HI.out.more⟩
            · have HIX := Lib.hid hix
              have HIXX := Lib.hid ((core_ix (isT q.thread) (fun _ => rfl) HI.out.eq).trans hix)
              have HE := Lib.hid he
              have hj := (List.getElem?_eq_some_iff.1 he).1
              have hjx : j < Lx.length := by rw [core_len HI.out.eq]; exact hj
              have HTH := Lib.hid (show eE.thread = q.thread from by simpa [isT] using hw)
              clear hix he hw
              have GP := Lib.hid (show ∀ (fl : Bool) (w' : World), Hid (PP w P X [(Y, .cells #[.int .i64 q.kind, .int .i64 q.thread, .int .i64 q.frags, .int .i64 q.spine, .int .i64 q.at_, .slice AX q.xs.length cX] 37 (0, 0))] (fun s l => cond s (l = L.eraseIdx j) (l = L)) (fun s l n => cond s (l = Lx.eraseIdx j ∧ n = nt.filter (· != q.thread)) (l = Lx ∧ n = nt)) false fl w') → Calls Try.prog 10 #[.pointer (some ⟨P, 0, none⟩), .int .i64 q.thread] w' fun er w'' => er = .returned (.bool true) ∧ (w''.cell? ⟨Y, 1, none⟩ = some (.int .i64 q.thread)) ∧ Hid (PP w P X [(Y, .cells #[.int .i64 q.kind, .int .i64 q.thread, .int .i64 q.frags, .int .i64 q.spine, .int .i64 q.at_, .slice AX q.xs.length cX] 37 (0, 0))] (fun s l => cond s (l = L.eraseIdx j) (l = L)) (fun s l n => cond s (l = Lx.eraseIdx j ∧ n = nt.filter (· != q.thread)) (l = Lx ∧ n = nt)) true fl w'') from fun fl w' h =>
                (h.out.doP (fun v' l' hl' hL' => by
                  have hL'' : l' = L := hL'
                  subst hL''
                  exact (drop_yes P v' _ q.thread j w' hl' HIX.out hj).mono fun er w'' ⟨v2, he, hl, ho, hb⟩ => ⟨v2, _, he, hl, ho, grow_s (.inl hb), rfl, all_old (fun e he => List.mem_of_mem_eraseIdx he)⟩)).mono fun er w'' ⟨he, hp⟩ => ⟨he, by have hb := hp.blk (q := Y) (List.mem_singleton.2 rfl); rw [cell_of_row _ _ _ _ _ _ hb]; rfl, Lib.hid hp⟩)
              have GX := Lib.hid (show ∀ (fl : Bool) (w' : World), Hid (PP w P X [(Y, .cells #[.int .i64 q.kind, .int .i64 q.thread, .int .i64 q.frags, .int .i64 q.spine, .int .i64 q.at_, .slice AX q.xs.length cX] 37 (0, 0))] (fun s l => cond s (l = L.eraseIdx j) (l = L)) (fun s l n => cond s (l = Lx.eraseIdx j ∧ n = nt.filter (· != q.thread)) (l = Lx ∧ n = nt)) fl false w') → Calls Try.prog 25 #[.pointer (some ⟨X, 0, none⟩), .int .i64 q.thread] w' fun er w'' => er = .returned (.bool true) ∧ (w''.cell? ⟨Y, 1, none⟩ = some (.int .i64 q.thread)) ∧ Hid (PP w P X [(Y, .cells #[.int .i64 q.kind, .int .i64 q.thread, .int .i64 q.frags, .int .i64 q.spine, .int .i64 q.at_, .slice AX q.xs.length cX] 37 (0, 0))] (fun s l => cond s (l = L.eraseIdx j) (l = L)) (fun s l n => cond s (l = Lx.eraseIdx j ∧ n = nt.filter (· != q.thread)) (l = Lx ∧ n = nt)) fl true w'') from fun fl w' h =>
                (h.out.doX (fun vx' nx' lx' nt' hl' hL' => by
                  obtain ⟨h1, h2⟩ : lx' = Lx ∧ nt' = nt := hL'
                  subst h1 h2
                  exact (dropx_yes X vx' nx' _ _ q.thread j w' hl' HIXX.out hjx (by omega)).mono fun er w'' ⟨v2, n2, he, hl, ho, hat⟩ => ⟨v2, n2, _, _, he, hl, ho, hat, ⟨rfl, rfl⟩, all_old (fun e he => List.mem_of_mem_eraseIdx he)⟩)).mono fun er w'' ⟨he, hp⟩ => ⟨he, by have hb := hp.blk (q := Y) (List.mem_singleton.2 rfl); rw [cell_of_row _ _ _ _ _ _ hb]; rfl, Lib.hid hp⟩)
              have hPP : Hid (PP w P X [(Y, .cells #[.int .i64 q.kind, .int .i64 q.thread, .int .i64 q.frags, .int .i64 q.spine, .int .i64 q.at_, .slice AX q.xs.length cX] 37 (0, 0))] (fun s l => cond s (l = L.eraseIdx j) (l = L)) (fun s l n => cond s (l = Lx.eraseIdx j ∧ n = nt.filter (· != q.thread)) (l = Lx ∧ n = nt)) false false W4.drew) := Lib.hid ⟨v, L, vx, nx, Lx, nt, D4.out.keep (drew_pure _), rfl, ⟨rfl, rfl⟩, fun b hb => by
                simp only [List.mem_singleton] at hb
                subst hb
                exact ⟨HY.out, HYL.out, HYX.out⟩⟩
              go_upto_region 20 with fail
              go_region_held3 (fun w' => w'.cell? ⟨Y, 1, none⟩ = some (.int .i64 q.thread)) (first | assumption | go_keep)
                (first | (go_at_call 10; refine (GP.out _ _ (by assumption)).mono ?_; rintro e w' ⟨rfl, hs, hpp⟩)
                       | (go_at_call 25; refine (GX.out _ _ (by assumption)).mono ?_; rintro e w' ⟨rfl, hs, hpp⟩))
              all_goals
                go_wp2_with fail
                go_meet
                obtain ⟨v2, l2, vx2, nx2, lx2, nt2, hPy, hgv, ⟨hgx, hnt⟩, hb⟩ := hpp.out
                subst hgv hgx hnt
                have hd := HI.out.dropped HE.out
                rw [HTH.out] at hd
                exact ⟨rfl, (hb _ (List.mem_singleton.2 rfl)).1, _, _, _, _, _, _, hPy, hd⟩
        · have hq0 := hq
          have z0 : (q.kind == 0) = false := by rw [hq]; rfl
          have z1 : (q.kind == 1) = false := by rw [hq]; rfl
          have z2 : (q.kind == 2) = false := by rw [hq]; rfl
          have z3 : (q.kind == 3) = false := by rw [hq]; rfl
          have z4 : (q.kind == 4) = true := by rw [hq]; rfl
          clear hq0 hq
          as_aux_lemma =>
            clear y0 y1 y2 y3 y4 y5
            go_wp2_with fail
            refine (begin_any P v L _ D4.out.p).mono ?_
            rintro e5 w5 ⟨rfl, hl5, ho5⟩
            have D5 := Lib.hid (D4.out.stepP hl5 ho5 same_s (map_old (fun _ => rfl)))
            have HY5 := Lib.hid ((ho5.block Y (Array.getElem?_eq_some_iff.1 HY.out).1 HYL.out).trans HY.out)
            clear hl5 ho5
            go_wp2_with fail
            refine (beginx_any X vx nx Lx nt _ D5.out.x HI.out.thrx).mono ?_
            rintro e5 w6 ⟨rfl, n6, hl6, ho6, hn6⟩
            have D6 := Lib.hid (D5.out.stepX hl6 ho6 (fun q hq => by
              rcases hq with hq | hq | hq
              · exact .inl (.inl hq)
              · exact .inl (.inr (.inl hq))
              · exact .inr (hn6 q hq)) (all_old (fun e he => he)))
            have HY6 := Lib.hid ((ho6.block Y (Array.getElem?_eq_some_iff.1 HY5.out).1 HYX.out).trans HY5.out)
            clear hl6 ho6 hn6
            go_wp2_with fail
            go_meet
            exact ⟨rfl, HY6.out, _, _, _, _, _, _, D6.out, HI.out.begun⟩
        · have hq0 := hq
          have z0 : (q.kind == 0) = false := by rw [hq]; rfl
          have z1 : (q.kind == 1) = false := by rw [hq]; rfl
          have z2 : (q.kind == 2) = false := by rw [hq]; rfl
          have z3 : (q.kind == 3) = false := by rw [hq]; rfl
          have z4 : (q.kind == 4) = false := by rw [hq]; rfl
          have z5 : (q.kind == 5) = true := by rw [hq]; rfl
          clear hq0 hq
          as_aux_lemma =>
            clear y0 y1 y2 y3 y4 y5
            go_wp2_with fail
            refine (end_any P v L _ D4.out.p (fun e he => by have := HI.out.cyc e he; omega)).mono ?_
            rintro e5 w5 ⟨rfl, hl5, ho5⟩
            have D5 := Lib.hid (D4.out.stepP hl5 ho5 same_s (map_old (fun _ => rfl)))
            have HY5 := Lib.hid ((ho5.block Y (Array.getElem?_eq_some_iff.1 HY.out).1 HYL.out).trans HY.out)
            clear hl5 ho5
            go_wp2_with fail
            refine (endx_any X vx nx Lx nt _ D5.out.x (fun e he => by have := HI.out.cycx e he; omega)).mono ?_
            rintro e5 w6 ⟨rfl, hl6, ho6⟩
            have D6 := Lib.hid (D5.out.stepX hl6 ho6 (fun q hq => by
              rcases hq with hq | hq | hq
              · exact .inl (.inl hq)
              · exact .inl (.inr (.inl hq))
              · simp [Value.ownBlock] at hq) (map_old (fun _ => rfl)))
            have HY6 := Lib.hid ((ho6.block Y (Array.getElem?_eq_some_iff.1 HY5.out).1 HYX.out).trans HY5.out)
            clear hl6 ho6
            go_wp2_with fail
            go_meet
            exact ⟨rfl, HY6.out, _, _, _, _, _, _, D6.out, HI.out.ended⟩
        · obtain ⟨h0, h1, h2, h3, h4, h5⟩ := hq
          have z0 : (q.kind == 0) = false := beq_eq_false_iff_ne.2 h0
          have z1 : (q.kind == 1) = false := beq_eq_false_iff_ne.2 h1
          have z2 : (q.kind == 2) = false := beq_eq_false_iff_ne.2 h2
          have z3 : (q.kind == 3) = false := beq_eq_false_iff_ne.2 h3
          have z4 : (q.kind == 4) = false := beq_eq_false_iff_ne.2 h4
          have z5 : (q.kind == 5) = false := beq_eq_false_iff_ne.2 h5
          clear h0 h1 h2 h3 h4 h5 y0 y1 y2 y3 y4 y5
          go_wp2_with fail
          go_meet
          exact ⟨rfl, HY.out, v, L, vx, nx, Lx, nt, D4.out, HI.out.more⟩
      case rest =>
        obtain ⟨rfl, hy2, v2, L2, vx2, nx2, Lx2, nt2, hD2, hI2⟩ := hcut
        as_aux_lemma =>
          have D2 := Lib.hid hD2
          have HI2 := Lib.hid hI2
          have HT := Lib.hid (core_f (isT q.thread) (fun _ => rfl) hI2.eq)
          have HW := Lib.hid (core_f isW (fun _ => rfl) hI2.eq)
          have HCN := Lib.hid (core_count hI2.eq)
          obtain ⟨a1, ha1⟩ : ∃ a, fE (isT q.thread) L2 = a := ⟨_, rfl⟩
          obtain ⟨b1, hb1⟩ : ∃ b, fB (isT q.thread) L2 = b := ⟨_, rfl⟩
          obtain ⟨a2, ha2⟩ : ∃ a, fE (isT q.thread) Lx2 = a := ⟨_, rfl⟩
          obtain ⟨a3, ha3⟩ : ∃ a, fE isW L2 = a := ⟨_, rfl⟩
          obtain ⟨b3, hb3⟩ : ∃ b, fB isW L2 = b := ⟨_, rfl⟩
          obtain ⟨a4, ha4⟩ : ∃ a, fE isW Lx2 = a := ⟨_, rfl⟩
          have HC12 := Lib.hid (show core a2 = core a1 from by rw [← ha1, ← ha2]; exact HT.out.1)
          have HC34 := Lib.hid (show core a4 = core a3 from by rw [← ha3, ← ha4]; exact HW.out.1)
          have A1 := Lib.hid ha1
          have A2 := Lib.hid ha2
          have A3 := Lib.hid ha3
          have A4 := Lib.hid ha4
          have B1 := Lib.hid hb1
          have B3 := Lib.hid hb3
          have B2 := Lib.hid (show fB (isT q.thread) Lx2 = b1 from by rw [← hb1]; exact HT.out.2)
          have B4 := Lib.hid (show fB isW Lx2 = b3 from by rw [← hb3]; exact HW.out.2)
          have y1c : wc.cell? ⟨Y, 1, none⟩ = some (.int .i64 q.thread) := by rw [cell_of_row _ _ _ _ _ _ hy2]; rfl
          clear hy2 hD2 hI2 ha1 ha2 ha3 ha4 hb1 hb3 y0 y1 y2 y3 y4 y5
          go_wp2_with fail
          refine (ofp_any P v2 L2 q.thread a1 b1 _ D2.out.p A1.out B1.out).mono ?_
          rintro e w5 ⟨A5, c5, rfl, hp5, hs5⟩
          have hp5' := hp5.alloc (.cells #[.int .i64 a1.thread, .int .i64 a1.frags, .int .i64 a1.spine, .int .i64 a1.state, .int .i64 a1.cycles, .int .i64 a1.at_, .slice A5 a1.got.length c5] 28)
          have D5 := Lib.hid (D2.out.keep hp5')
          have S5 := Lib.hid (hs5.only ((Only.refl (fun _ => False) w5).alloc (.cells #[.int .i64 a1.thread, .int .i64 a1.frags, .int .i64 a1.spine, .int .i64 a1.state, .int .i64 a1.cycles, .int .i64 a1.at_, .slice A5 a1.got.length c5] 28)) (fun _ _ f => f))
          have H5 := Lib.hid (heap_alloc_new w5 (.cells #[.int .i64 a1.thread, .int .i64 a1.frags, .int .i64 a1.spine, .int .i64 a1.state, .int .i64 a1.cycles, .int .i64 a1.at_, .slice A5 a1.got.length c5] 28))
          have y1d := Pure.keep hp5' y1c
          clear hp5 hs5 hp5' y1c
          go_upto_region 28 with fail
          generalize w5.alloc (.cells #[.int .i64 a1.thread, .int .i64 a1.frags, .int .i64 a1.spine, .int .i64 a1.state, .int .i64 a1.cycles, .int .i64 a1.at_, .slice A5 a1.got.length c5] 28) = W5 at *
          generalize w5.heap.size = R1 at *
          go_wp2_with fail
          refine (ofx_any X vx2 nx2 Lx2 nt2 q.thread a2 b1 _ D5.out.x A2.out B2.out).mono ?_
          rintro e w6 ⟨A6, c6, rfl, hp6, hs6⟩
          have hp6' := hp6.alloc (.cells #[.int .i64 a2.thread, .int .i64 a2.frags, .int .i64 a2.spine, .int .i64 a2.state, .int .i64 a2.cycles, .int .i64 a2.at_, .slice A6 a2.got.length c6] 28)
          have D6 := Lib.hid (D5.out.keep hp6')
          have S6 := Lib.hid (hs6.only ((Only.refl (fun _ => False) w6).alloc (.cells #[.int .i64 a2.thread, .int .i64 a2.frags, .int .i64 a2.spine, .int .i64 a2.state, .int .i64 a2.cycles, .int .i64 a2.at_, .slice A6 a2.got.length c6] 28)) (fun _ _ f => f))
          have S56 := Lib.hid (S5.out.only hp6' (fun _ _ f => f))
          have H6 := Lib.hid (heap_alloc_new w6 (.cells #[.int .i64 a2.thread, .int .i64 a2.frags, .int .i64 a2.spine, .int .i64 a2.state, .int .i64 a2.cycles, .int .i64 a2.at_, .slice A6 a2.got.length c6] 28))
          have H56 := Lib.hid ((hp6'.block _ (Array.getElem?_eq_some_iff.1 H5.out).1 (fun f => f)).trans H5.out)
          clear hp6 hs6 hp6' y1d
          go_upto_region 29 with fail
          generalize w6.alloc (.cells #[.int .i64 a2.thread, .int .i64 a2.frags, .int .i64 a2.spine, .int .i64 a2.state, .int .i64 a2.cycles, .int .i64 a2.at_, .slice A6 a2.got.length c6] 28) = W6 at *
          generalize w6.heap.size = R2 at *
          go_wp2_with fail
          refine (firstp_any P v2 L2 a3 b3 _ D6.out.p A3.out B3.out).mono ?_
          rintro e w7 ⟨A7, c7, rfl, hp7, hs7⟩
          have hp7' := hp7.alloc (.cells #[.int .i64 a3.thread, .int .i64 a3.frags, .int .i64 a3.spine, .int .i64 a3.state, .int .i64 a3.cycles, .int .i64 a3.at_, .slice A7 a3.got.length c7] 28)
          have D7 := Lib.hid (D6.out.keep hp7')
          have S7 := Lib.hid (hs7.only ((Only.refl (fun _ => False) w7).alloc (.cells #[.int .i64 a3.thread, .int .i64 a3.frags, .int .i64 a3.spine, .int .i64 a3.state, .int .i64 a3.cycles, .int .i64 a3.at_, .slice A7 a3.got.length c7] 28)) (fun _ _ f => f))
          have S57 := Lib.hid (S56.out.only hp7' (fun _ _ f => f))
          have S67 := Lib.hid (S6.out.only hp7' (fun _ _ f => f))
          have H7 := Lib.hid (heap_alloc_new w7 (.cells #[.int .i64 a3.thread, .int .i64 a3.frags, .int .i64 a3.spine, .int .i64 a3.state, .int .i64 a3.cycles, .int .i64 a3.at_, .slice A7 a3.got.length c7] 28))
          have H57 := Lib.hid ((hp7'.block _ (Array.getElem?_eq_some_iff.1 H56.out).1 (fun f => f)).trans H56.out)
          have H67 := Lib.hid ((hp7'.block _ (Array.getElem?_eq_some_iff.1 H6.out).1 (fun f => f)).trans H6.out)
          clear hp7 hs7 hp7'
          go_upto_region 30 with fail
          generalize w7.alloc (.cells #[.int .i64 a3.thread, .int .i64 a3.frags, .int .i64 a3.spine, .int .i64 a3.state, .int .i64 a3.cycles, .int .i64 a3.at_, .slice A7 a3.got.length c7] 28) = W7 at *
          generalize w7.heap.size = R3 at *
          go_wp2_with fail
          refine (fxx_any X vx2 nx2 Lx2 nt2 a4 b3 _ D7.out.x A4.out B4.out).mono ?_
          rintro e w8 ⟨A8, c8, rfl, hp8, hs8⟩
          have hp8' := hp8.alloc (.cells #[.int .i64 a4.thread, .int .i64 a4.frags, .int .i64 a4.spine, .int .i64 a4.state, .int .i64 a4.cycles, .int .i64 a4.at_, .slice A8 a4.got.length c8] 28)
          have D8 := Lib.hid (D7.out.keep hp8')
          have S8 := Lib.hid (hs8.only ((Only.refl (fun _ => False) w8).alloc (.cells #[.int .i64 a4.thread, .int .i64 a4.frags, .int .i64 a4.spine, .int .i64 a4.state, .int .i64 a4.cycles, .int .i64 a4.at_, .slice A8 a4.got.length c8] 28)) (fun _ _ f => f))
          have S58 := Lib.hid (S57.out.only hp8' (fun _ _ f => f))
          have S68 := Lib.hid (S67.out.only hp8' (fun _ _ f => f))
          have S78 := Lib.hid (S7.out.only hp8' (fun _ _ f => f))
          have H8 := Lib.hid (heap_alloc_new w8 (.cells #[.int .i64 a4.thread, .int .i64 a4.frags, .int .i64 a4.spine, .int .i64 a4.state, .int .i64 a4.cycles, .int .i64 a4.at_, .slice A8 a4.got.length c8] 28))
          have H58 := Lib.hid ((hp8'.block _ (Array.getElem?_eq_some_iff.1 H57.out).1 (fun f => f)).trans H57.out)
          have H68 := Lib.hid ((hp8'.block _ (Array.getElem?_eq_some_iff.1 H67.out).1 (fun f => f)).trans H67.out)
          have H78 := Lib.hid ((hp8'.block _ (Array.getElem?_eq_some_iff.1 H7.out).1 (fun f => f)).trans H7.out)
          clear hp8 hs8 hp8'
          go_upto_region 31 with fail
          generalize w8.alloc (.cells #[.int .i64 a4.thread, .int .i64 a4.frags, .int .i64 a4.spine, .int .i64 a4.state, .int .i64 a4.cycles, .int .i64 a4.at_, .slice A8 a4.got.length c8] 28) = W8 at *
          generalize w8.heap.size = R4 at *
          obtain ⟨u0, u1, u2, u3, u4, u5, u6, _⟩ := seven H58.out
          obtain ⟨v0, v1, v2', v3, v4, v5, v6, _⟩ := seven H68.out
          go_wp2_with fail
          refine (same_any a1 a2 A5 A6 _ c5 _ c6 _ (by obtain ⟨h1, h2, h3, h4, h5, h6, _⟩ := core_thread HC12.out; exact ⟨h1.symm, h2.symm, h3.symm, h4.symm, h5.symm, h6.symm⟩) a1.got S58.out (got_same HC12.out S68.out)).mono ?_
          rintro e w9 ⟨rfl, hp9⟩
          have D9 := Lib.hid (D8.out.keep hp9)
          obtain ⟨g0, g1, g2, g3, g4, g5, g6, _⟩ := seven ((hp9.block _ (Array.getElem?_eq_some_iff.1 H78.out).1 (fun f => f)).trans H78.out)
          obtain ⟨k0, k1, k2, k3, k4, k5, k6, _⟩ := seven ((hp9.block _ (Array.getElem?_eq_some_iff.1 H8.out).1 (fun f => f)).trans H8.out)
          have S79 := Lib.hid (S78.out.only hp9 (fun _ _ f => f))
          have S89 := Lib.hid (S8.out.only hp9 (fun _ _ f => f))
          clear hp9 u0 u1 u2 u3 u4 u5 u6 v0 v1 v2' v3 v4 v5 v6
          go_wp2_with fail
          refine (same_any a3 a4 A7 A8 _ c7 _ c8 _ (by obtain ⟨h1, h2, h3, h4, h5, h6, _⟩ := core_thread HC34.out; exact ⟨h1.symm, h2.symm, h3.symm, h4.symm, h5.symm, h6.symm⟩) a3.got S79.out (got_same HC34.out S89.out)).mono ?_
          rintro e w10 ⟨rfl, hp10⟩
          have D10 := Lib.hid (D9.out.keep hp10)
          clear hp10 g0 g1 g2 g3 g4 g5 g6 k0 k1 k2 k3 k4 k5 k6
          go_wp2_with fail
          refine (waits_any P v2 L2 _ D10.out.p).mono ?_
          rintro e w11 ⟨rfl, hp11⟩
          have D11 := Lib.hid (D10.out.keep hp11)
          clear hp11
          go_wp2_with fail
          refine (waitsx_any X vx2 nx2 Lx2 nt2 _ D11.out.x).mono ?_
          rw [HCN.out]
          rintro e w12 ⟨rfl, rfl⟩
          generalize (((L2.countP isW : Nat)) : Int) = nw at *
          go_wp2_with fail
          go_roundw
          case rel => exact ⟨k + 1, v2, L2, vx2, nx2, Lx2, nt2, hlt, by go_num, D11.out, HI2.out⟩
          case measure => simp [intOf]; omega
    · obtain rfl : k = l.length := by omega
      go_wp2_with fail
      refine (first_look _).mono ?_
      rintro e w9 ⟨rfl, hp9⟩
      have P9 := Lib.hid hp9
      clear hp9
      go_wp2_with fail
      go_ret
      exact ⟨rfl, Pure.then HD.out.pure P9.out⟩

theorem walk (w : World) (v : Value) (l : List Op10) (hl : OpsR w w.heap.size v l) :
    Calls Try.prog 6 #[v] w fun e w' => e = .returned (.bool true) ∧ Pure w w' := by
  cases h : fewB l with
  | false => exact out v l w hl h
  | true => exact main v l w hl h

theorem open_0 {H : Type} {enc : TypeId × Value → H} {W : World} {b0 base : Nat} {v : Value} {d : DataW H} {ps : List MemPlace} {r : Reach}
    (hval : Value.okWide Try.prog W r b0 34 v) (h : DataW.Trod enc Try.prog W base (fun _ => true) true 34 v d ps) : ∃ l, OpsR W W.heap.size v l := open_ops hval h

set_option maxRecDepth 100000 in
theorem lifted (os : Os) (started : os.Started) (H : Type) (enc : TypeId × Value → H) :
    ReturnsInHanded {} Try.checked os 6 .any (Rows.linePlaysSpec.pre6 enc Try.prog Try.f6 Rows.linePlaysRow.domain false) (Rows.linePlaysSpec.post enc Try.prog Try.f6 false true false false) :=
  lift_law (C := Try.checked) own started (by kernel_rfl) Try.func6 laidOut (by kernel_rfl) rfl rfl Try.underlying4
    (fun ds h => by match ds, h with | [_], _ => rfl)
    (ChangeSpec.witness6 (enc := enc) (C := Try.checked) false ⟨#[], #[.slice none 0 0], []⟩ 8 (by kernel_rfl) (by kernel_rfl) (by kernel_rfl) (by kernel_rfl))
    (fun W base args ds ps hval hA hlt => by
      have hA' : DataW.TrodAll enc Try.prog W 0 (fun _ => true) true Try.f6.params.toList args.toList ds ps := hA
      rw [Try.params6] at hA'
      have hval' : ∀ (j : Nat) t v, Try.f6.params[j]? = some t → args[j]? = some v → Value.okWide Try.prog W .any base t v := hval
      rw [Try.params6] at hval'
      obtain ⟨v0, vs0, d0, ds0, p0, q0, hargs, rfl, rfl, h0, r0⟩ := trodAll_cons hA'
      obtain ⟨rfl, rfl, rfl⟩ := trodAll_nil r0
      obtain rfl : args = #[v0] := by cases args; simp_all
      obtain ⟨x0, s0⟩ := open_0 (hval' 0 34 v0 rfl rfl) h0
      exact (walk W _ x0 s0).mono fun e W' ⟨he, hp⟩ => ⟨he, hp.below⟩)

/-- The statement. -/
theorem proved : Rows.LinePlaysSaid :=
  OpenClaim.holds_of_wide 6 Try.f6 rfl rfl rfl rfl rfl rfl rfl ⟨rfl, rfl, rfl, rfl, rfl⟩ rfl rfl rfl rfl rfl (by kernel_rfl) Try.func6 (by kernel_rfl)
    (of_decide_eq_true (by kernel_rfl)) (by unfold Func.isWrapper; first | (rw [if_pos (by decide +kernel)]; kernel_rfl) | (rw [if_neg (by decide +kernel)]; exact ⟨rfl, rfl⟩))
    (fun os started H enc _ => lifted os started H enc)
#print axioms proved

end Go.Proofs.Ytmpomkejmokdlaa.linePlays
