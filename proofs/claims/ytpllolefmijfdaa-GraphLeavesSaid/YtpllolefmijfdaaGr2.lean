/-
  The plain graph's memory: what stands where, and what of it a write may change.
  No function of the program is walked here.
-/
import Derived.Test.YtpllolefmijfdaaGr1
import Derived.Maps.OwnSet
namespace Go.Proofs.Ytpllolefmijfdaa
open Go.RowKit

/-- A value. -/
structure Vl where
  r : Bool
  x : Nat
  y : Nat
abbrev vlV (v : Vl) : Value := .agg #[.bool v.r, .complex .f64 v.x v.y]
/-- Values as cells. -/
def vcs (l : List Vl) : List Value := l.flatMap fun v => [.bool v.r, .complex .f64 v.x v.y]
theorem vcs_length (l : List Vl) : (vcs l).length = l.length * 2 := by
  induction l with
  | nil => rfl
  | cons v l ih => simp [vcs] at ih ⊢; omega
theorem vcs_append (l m : List Vl) : vcs (l ++ m) = vcs l ++ vcs m := by simp [vcs]
theorem vcs_get (l : List Vl) (j : Nat) (v : Vl) (h : l[j]? = some v) : (vcs l)[j * 2]? = some (.bool v.r) ∧ (vcs l)[j * 2 + 1]? = some (.complex .f64 v.x v.y) := by
  induction l generalizing j with
  | nil => simp at h
  | cons t l ih =>
    cases j with
    | zero => simp at h; subst h; exact ⟨rfl, rfl⟩
    | succ j =>
      have := ih j (by simpa using h)
      rw [show (j + 1) * 2 = j * 2 + 2 from by omega, show j * 2 + 2 + 1 = j * 2 + 1 + 2 from by omega]
      exact this
theorem vcs_set (l : List Vl) (j : Nat) (v : Vl) (h : j < l.length) : ((vcs l).set (j * 2) (.bool v.r)).set (j * 2 + 1) (.complex .f64 v.x v.y) = vcs (l.set j v) := by
  induction l generalizing j with
  | nil => simp at h
  | cons t l ih =>
    cases j with
    | zero => rfl
    | succ j =>
      have := ih j (by simpa using h)
      rw [show (j + 1) * 2 = j * 2 + 2 from by omega, show j * 2 + 2 + 1 = j * 2 + 1 + 2 from by omega]
      show (Value.bool t.r :: Value.complex .f64 t.x t.y :: _) = _
      simp only [List.set_cons_succ, vcs, List.flatMap_cons] at this ⊢
      rw [← this]
      rfl
theorem vcs_one (l : List Vl) : ∀ u ∈ vcs l, u.oneCell' = true := by
  intro u hu
  simp only [vcs, List.mem_flatMap] at hu
  obtain ⟨v, _, hv⟩ := hu
  simp at hv
  rcases hv with rfl | rfl <;> rfl

/-- Fields as cells. -/
def fcs (l : List (Nat × Nat)) : List Value := l.map fun p => .complex .f64 p.1 p.2
theorem fcs_length (l : List (Nat × Nat)) : (fcs l).length = l.length := by simp [fcs]
theorem fcs_get (l : List (Nat × Nat)) (j : Nat) (p : Nat × Nat) (h : l[j]? = some p) : (fcs l)[j]? = some (.complex .f64 p.1 p.2) := by simp [fcs, h]
theorem fcs_set (l : List (Nat × Nat)) (j : Nat) (p : Nat × Nat) : (fcs l).set j (.complex .f64 p.1 p.2) = fcs (l.set j p) := by simp [fcs, List.map_set]

/-- A thing: its kind, its length, what its shape is, its fields. -/
structure Th where
  kind : Int
  n : Int
  a : Bool
  rs : List Bool
  l : List (Nat × Nat)
/-- A graph with the one thread 0, there or not. -/
structure GS where
  c : Cn
  sh : List (Bool × List Bool)
  th : List Th
  loc : Option (List Vl)
  glo : List Vl

/-- What a block is for. -/
inductive Cl where
  | g | m | r | l | o | q (i : Nat) | s
  deriving DecidableEq

/-- Where everything lies. -/
structure Ly where
  A : Option Addr
  cc : Nat
  m : List Sh
  B : Option Addr
  lc : Nat
  ps : List Nat
  M : Nat
  E : Option Addr
  ec : Nat
  lb : Nat

/-- The blocks that a slice's value stands in have the colour. -/
def Col (κ : Nat → Option Cl) (v : Value) (x : Cl) : Prop := ∀ k, v.ownBlock = some k → κ k = some x

/-- The thing number i lies in block p. -/
def ThR (w : World) (κ : Nat → Option Cl) (i p : Nat) (t : Th) : Prop :=
  ∃ (A : Option Addr) (cr q : Nat), w.heap[p]? = some (.cells #[.int .i64 t.kind, .int .i64 t.n, .bool t.a, .slice A t.rs.length cr, .slice (some ⟨q, 0, none⟩) t.l.length t.l.length] 70 (0, 0)) ∧
    κ p = some .s ∧ w.heap[q]? = some (.cells (fcs t.l).toArray 32 (0, 0)) ∧ κ q = some (.q i) ∧ SlG w w.heap.size (.slice A t.rs.length cr) (bools t.rs) ∧ Col κ (.slice A t.rs.length cr) .s ∧ t.l.length ≤ 1000000

/-- The map of locals. -/
def MapR (w : World) (κ : Nat → Option Cl) (M lb : Nat) : Option (List Vl) → Prop
  | none => ∃ clock, w.heap[M]? = some (.map #[] clock)
  | some l => (∃ clock born, born < clock ∧ w.heap[M]? = some (.map #[⟨.int .i64 0, .slice (some ⟨lb, 0, none⟩) l.length l.length, born⟩] clock)) ∧ w.heap[lb]? = some (.cells (vcs l).toArray 34 (0, 0)) ∧ κ lb = some .o ∧ l.length ≤ 1000000

abbrev gCells (c : Cn) (cv lv : Value) (M : Nat) (gv : Value) : Array Value := #[.int .i64 c.frags, .int .i64 c.spine, .int .i64 c.globals, .int .i64 c.threads, .int .i64 c.locals, .int .i64 c.cache, .int .i64 c.stack, .int .i64 c.low, cv, lv, .map (some M), gv]

/-- In the world w the graph st lies in block G, everything as y says; κ: what each block of it is for. -/
structure GRL (w : World) (κ : Nat → Option Cl) (G : Nat) (st : GS) (y : Ly) : Prop where
  dom : ∀ k, κ k ≠ none → k < w.heap.size
  blk : w.heap[G]? = some (.cells (gCells st.c (.slice y.A y.m.length y.cc) (.slice y.B st.th.length y.lc) y.M (.slice y.E st.glo.length y.ec)) 60 (0, 0))
  kG : κ G = some .g
  shs : ShsR w w.heap.size (.slice y.A y.m.length y.cc) y.m
  shm : y.m.map (fun s => (s.a, s.bs)) = st.sh
  shk : Col κ (.slice y.A y.m.length y.cc) .s
  shk' : ∀ s ∈ y.m, Col κ s.v .s
  ok : checkI st.c y.m = 0
  row : w.ownsRow 0 67 1 (.slice y.B st.th.length y.lc) st.th.length (y.ps.map fun p => .pointer (some ⟨p, 0, none⟩))
  rowk : Col κ (.slice y.B st.th.length y.lc) .r
  ths : ∀ i t, st.th[i]? = some t → ∃ p, y.ps[i]? = some p ∧ ThR w κ i p t
  map : MapR w κ y.M y.lb st.loc
  mapk : κ y.M = some .m
  glo : w.ownsRow 0 34 2 (.slice y.E st.glo.length y.ec) st.glo.length (vcs st.glo)
  glok : Col κ (.slice y.E st.glo.length y.ec) .l
def GR (w : World) (κ : Nat → Option Cl) (G : Nat) (st : GS) : Prop := ∃ y, GRL w κ G st y

section
variable {w w' : World} {S : Nat → Prop} {κ : Nat → Option Cl}
theorem Only.blk (h : Only S w w') {b : Nat} {o : Obj} (hb : w.heap[b]? = some o) (hn : ¬ S b) : w'.heap[b]? = some o := (h.block b (Array.getElem?_eq_some_iff.1 hb).1 hn).trans hb
/-- Where the slice's cells do not change, what it reads as does not. -/
theorem ShsR.only {v : Value} {l : List Sh} (h : ShsR w w.heap.size v l) (ho : Only S w w') (h1 : ∀ k, v.ownBlock = some k → ¬ S k) (h2 : ∀ s ∈ l, ∀ k, s.v.ownBlock = some k → ¬ S k) : ShsR w' w'.heap.size v l := by
  obtain ⟨⟨A, c, rfl, a1, a2, a3⟩, h4⟩ := h
  refine ⟨⟨A, c, rfl, a1, a2, fun hp => ?_⟩, fun s hs => (h4 s hs).only ho (h2 s hs)⟩
  obtain ⟨b, off, rfl, hb, hc⟩ := a3 hp
  refine ⟨b, off, rfl, Nat.lt_of_lt_of_le hb ho.size, fun j s hs => ?_⟩
  have hn := h1 b rfl
  exact ⟨(ho.cell (p := ⟨b, off + j * 2, none⟩) hb hn).trans (hc j s hs).1, (ho.cell (p := ⟨b, off + j * 2 + 1, none⟩) hb hn).trans (hc j s hs).2⟩
theorem ThR.only {i p : Nat} {t : Th} (h : ThR w κ i p t) (ho : Only S w w') (h1 : ∀ k, κ k = some .s → ¬ S k) (h2 : ∀ k, κ k = some (.q i) → ¬ S k) : ThR w' κ i p t := by
  obtain ⟨A, cr, q, b1, b2, b3, b4, b5, b6, b7⟩ := h
  exact ⟨A, cr, q, ho.blk b1 (h1 p b2), b2, ho.blk b3 (h2 q b4), b4, b5.only ho (fun k hk => h1 k (b6 k hk)), b6, b7⟩
theorem MapR.only {M lb : Nat} {o : Option (List Vl)} (h : MapR w κ M lb o) (hM : κ M = some .m) (ho : Only S w w') (h1 : ∀ k, κ k = some .m → ¬ S k) (h2 : ∀ k, κ k = some .o → ¬ S k) : MapR w' κ M lb o := by
  cases o with
  | none => obtain ⟨c, hc⟩ := h; exact ⟨c, ho.blk hc (h1 M hM)⟩
  | some l => obtain ⟨⟨c, b, hbc, hc⟩, hb, hk, hl⟩ := h; exact ⟨⟨c, b, hbc, ho.blk hc (h1 M hM)⟩, ho.blk hb (h2 lb hk), hk, hl⟩

/-- Where none of its blocks changes, the graph stays. -/
theorem GRL.only {G : Nat} {st : GS} {y : Ly} (h : GRL w κ G st y) (ho : Only S w w') (hn : ∀ k, κ k ≠ none → ¬ S k) : GRL w' κ G st y := by
  have hc : ∀ x k, κ k = some x → ¬ S k := fun x k hk => hn k (by rw [hk]; simp)
  exact {
    dom := fun k hk => Nat.lt_of_lt_of_le (h.dom k hk) ho.size
    blk := ho.blk h.blk (hc _ _ h.kG)
    kG := h.kG
    shs := h.shs.only ho (fun k hk => hc _ _ (h.shk k hk)) (fun s hs k hk => hc _ _ (h.shk' s hs k hk))
    shm := h.shm, shk := h.shk, shk' := h.shk', ok := h.ok
    row := ho.own h.row (fun k hk => hc _ _ (h.rowk k hk))
    rowk := h.rowk
    ths := fun i t ht => (h.ths i t ht).imp fun p hp => ⟨hp.1, hp.2.only ho (hc _) (hc _)⟩
    map := h.map.only h.mapk ho (hc _) (hc _)
    mapk := h.mapk
    glo := ho.own h.glo (fun k hk => hc _ _ (h.glok k hk))
    glok := h.glok }
theorem GRL.pure {G : Nat} {st : GS} {y : Ly} (h : GRL w κ G st y) (ho : Pure w w') : GRL w' κ G st y := h.only ho (fun _ _ f => f)
theorem GR.only {G : Nat} {st : GS} (h : GR w κ G st) (ho : Only S w w') (hn : ∀ k, κ k ≠ none → ¬ S k) : GR w' κ G st := h.imp fun _ hy => hy.only ho hn
theorem GR.pure {G : Nat} {st : GS} (h : GR w κ G st) (ho : Pure w w') : GR w' κ G st := h.only ho (fun _ _ f => f)

/-- A local is written. -/
theorem GRL.setLocal {G j : Nat} {st : GS} {y : Ly} {l : List Vl} {v : Vl} (h : GRL w κ G st y) (hl : st.loc = some l) (ho : Only (fun k => k = y.lb) w w')
    (hw : w'.heap[y.lb]? = some (.cells (vcs (l.set j v)).toArray 34 (0, 0))) : GRL w' κ G { st with loc := some (l.set j v) } y := by
  have hm := h.map
  rw [hl] at hm
  obtain ⟨⟨c, b, hbc, hc⟩, hb, hk, hle⟩ := hm
  have hx : ∀ x k, κ k = some x → x ≠ .o → ¬ k = y.lb := fun x k h1 h2 e => by subst e; rw [hk] at h1; injection h1 with h1; exact h2 h1.symm
  exact {
    dom := fun k hk => Nat.lt_of_lt_of_le (h.dom k hk) ho.size
    blk := ho.blk h.blk (hx _ _ h.kG (by simp))
    kG := h.kG
    shs := h.shs.only ho (fun k hk => hx _ _ (h.shk k hk) (by simp)) (fun s hs k hk => hx _ _ (h.shk' s hs k hk) (by simp))
    shm := h.shm, shk := h.shk, shk' := h.shk', ok := h.ok
    row := ho.own h.row (fun k hk => hx _ _ (h.rowk k hk) (by simp))
    rowk := h.rowk
    ths := fun i t ht => (h.ths i t ht).imp fun p hp => ⟨hp.1, hp.2.only ho (fun k hk => hx _ _ hk (by simp)) (fun k hk => hx _ _ hk (by simp))⟩
    map := ⟨⟨c, b, hbc, by rw [List.length_set]; exact ho.blk hc (hx _ _ h.mapk (by simp))⟩, hw, hk, by rw [List.length_set]; exact hle⟩
    mapk := h.mapk
    glo := ho.own h.glo (fun k hk => hx _ _ (h.glok k hk) (by simp))
    glok := h.glok }

/-- The thread leaves, or comes. -/
theorem GRL.setMap {G : Nat} {st : GS} {y : Ly} {o : Option (List Vl)} {lb : Nat} (h : GRL w κ G st y) (κ' : Nat → Option Cl) (hκ : ∀ k, κ k ≠ none → κ' k = κ k) (hdom : ∀ k, κ' k ≠ none → k < w'.heap.size) (ho : Only (fun k => k = y.M) w w')
    (hm : MapR w' κ' y.M lb o) : GRL w' κ' G { st with loc := o } { y with lb := lb } := by
  have hx : ∀ x k, κ k = some x → x ≠ .m → ¬ k = y.M := fun x k h1 h2 e => by subst e; rw [h.mapk] at h1; injection h1 with h1; exact h2 h1.symm
  have hup : ∀ x k, κ k = some x → κ' k = some x := fun x k hk => (hκ k (by rw [hk]; simp)).trans hk
  exact {
    dom := hdom
    blk := ho.blk h.blk (hx _ _ h.kG (by simp))
    kG := hup _ _ h.kG
    shs := h.shs.only ho (fun k hk => hx _ _ (h.shk k hk) (by simp)) (fun s hs k hk => hx _ _ (h.shk' s hs k hk) (by simp))
    shm := h.shm, shk := fun k hk => hup _ _ (h.shk k hk), shk' := fun s hs k hk => hup _ _ (h.shk' s hs k hk), ok := h.ok
    row := ho.own h.row (fun k hk => hx _ _ (h.rowk k hk) (by simp))
    rowk := fun k hk => hup _ _ (h.rowk k hk)
    ths := fun i t ht => by
      obtain ⟨p, hp, ht'⟩ := h.ths i t ht
      obtain ⟨A, cr, q, b1, b2, b3, b4, b5, b6, b7⟩ := ht'.only ho (fun k hk => hx _ _ hk (by simp)) (fun k hk => hx _ _ hk (by simp))
      exact ⟨p, hp, A, cr, q, b1, hup _ _ b2, b3, hup _ _ b4, b5, fun k hk => hup _ _ (b6 k hk), b7⟩
    map := hm
    mapk := hup _ _ h.mapk
    glo := ho.own h.glo (fun k hk => hx _ _ (h.glok k hk) (by simp))
    glok := fun k hk => hup _ _ (h.glok k hk) }

/-- A global is written. -/
theorem GRL.setGlobal {G : Nat} {st : GS} {y : Ly} {g : List Vl} {q : Nat} (h : GRL w κ G st y) (hq : (Value.slice y.E st.glo.length y.ec).ownBlock = some q) (hlen : g.length = st.glo.length) (ho : Only (fun k => k = q) w w')
    (hw : w'.ownsRow 0 34 2 (.slice y.E st.glo.length y.ec) st.glo.length (vcs g)) : GRL w' κ G { st with glo := g } y := by
  have hk := h.glok q hq
  have hx : ∀ x k, κ k = some x → x ≠ .l → ¬ k = q := fun x k h1 h2 e => by subst e; rw [hk] at h1; injection h1 with h1; exact h2 h1.symm
  exact {
    dom := fun k hk => Nat.lt_of_lt_of_le (h.dom k hk) ho.size
    blk := by dsimp only; rw [hlen]; exact ho.blk h.blk (hx _ _ h.kG (by simp))
    kG := h.kG
    shs := h.shs.only ho (fun k hk => hx _ _ (h.shk k hk) (by simp)) (fun s hs k hk => hx _ _ (h.shk' s hs k hk) (by simp))
    shm := h.shm, shk := h.shk, shk' := h.shk', ok := h.ok
    row := ho.own h.row (fun k hk => hx _ _ (h.rowk k hk) (by simp))
    rowk := h.rowk
    ths := fun i t ht => (h.ths i t ht).imp fun p hp => ⟨hp.1, hp.2.only ho (fun k hk => hx _ _ hk (by simp)) (fun k hk => hx _ _ hk (by simp))⟩
    map := h.map.only h.mapk ho (fun k hk => hx _ _ hk (by simp)) (fun k hk => hx _ _ hk (by simp))
    mapk := h.mapk
    glo := by dsimp only; rw [hlen]; exact hw
    glok := by dsimp only; rw [hlen]; exact h.glok }

/-- A field is written. -/
theorem GRL.setField {G i p q : Nat} {st : GS} {y : Ly} {t : Th} {A : Option Addr} {cr : Nat} {l : List (Nat × Nat)} (h : GRL w κ G st y) (ht : st.th[i]? = some t) (hp : y.ps[i]? = some p)
    (hb : w.heap[p]? = some (.cells #[.int .i64 t.kind, .int .i64 t.n, .bool t.a, .slice A t.rs.length cr, .slice (some ⟨q, 0, none⟩) t.l.length t.l.length] 70 (0, 0))) (hlen : l.length = t.l.length) (ho : Only (fun k => k = q) w w')
    (hw : w'.heap[q]? = some (.cells (fcs l).toArray 32 (0, 0))) : GRL w' κ G { st with th := st.th.set i { t with l := l } } y := by
  obtain ⟨p', hp', A', cr', q', b1, b2, b3, b4, b5, b6, b7⟩ := h.ths i t ht
  obtain rfl : p' = p := by rw [hp] at hp'; injection hp' with e; exact e.symm
  rw [hb] at b1
  have eA : A = A' ∧ cr = cr' ∧ q = q' := by
    injection b1 with b1
    injection b1 with b1
    simp at b1
    exact ⟨b1.1.1, b1.1.2, b1.2⟩
  obtain ⟨rfl, rfl, rfl⟩ := eA
  have hx : ∀ x k, κ k = some x → x ≠ .q i → ¬ k = q := fun x k h1 h2 e => by subst e; rw [b4] at h1; injection h1 with h1; exact h2 h1.symm
  have hlt := (List.getElem?_eq_some_iff.1 ht).1
  exact {
    dom := fun k hk => Nat.lt_of_lt_of_le (h.dom k hk) ho.size
    blk := by dsimp only; rw [List.length_set]; exact ho.blk h.blk (hx _ _ h.kG (by simp))
    kG := h.kG
    shs := h.shs.only ho (fun k hk => hx _ _ (h.shk k hk) (by simp)) (fun s hs k hk => hx _ _ (h.shk' s hs k hk) (by simp))
    shm := h.shm, shk := h.shk, shk' := h.shk', ok := h.ok
    row := by dsimp only; rw [List.length_set]; exact ho.own h.row (fun k hk => hx _ _ (h.rowk k hk) (by simp))
    rowk := by dsimp only; rw [List.length_set]; exact h.rowk
    ths := fun j u hu => by
      dsimp only at hu
      by_cases hj : j = i
      · subst hj
        rw [List.getElem?_set_self hlt] at hu
        injection hu with hu
        subst hu
        exact ⟨p', hp, A, cr, q, by dsimp only; rw [hlen]; exact ho.blk hb (hx _ _ b2 (by simp)), b2, hw, b4, b5.only ho (fun k hk => hx _ _ (b6 k hk) (by simp)), b6, by dsimp only; omega⟩
      · rw [List.getElem?_set_ne (fun e => hj e.symm)] at hu
        exact (h.ths j u hu).imp fun p hp => ⟨hp.1, hp.2.only ho (fun k hk => hx _ _ hk (by simp)) (fun k hk => hx _ _ hk (by simp [hj]))⟩
    map := h.map.only h.mapk ho (fun k hk => hx _ _ hk (by simp)) (fun k hk => hx _ _ hk (by simp))
    mapk := h.mapk
    glo := ho.own h.glo (fun k hk => hx _ _ (h.glok k hk) (by simp))
    glok := h.glok }

/-- A thing has been made: its row of pointers, and the graph's block, are new. -/
theorem GRL.addThing {G p : Nat} {st : GS} {y : Ly} {t : Th} {B' : Option Addr} {lc' : Nat} (h : GRL w κ G st y) (κ' : Nat → Option Cl) (hκ : ∀ k, κ k ≠ none → κ' k = κ k) (hdom : ∀ k, κ' k ≠ none → k < w'.heap.size)
    (ho : Only (fun k => k = G ∨ κ k = some .r) w w') (hps : y.ps.length = st.th.length)
    (hblk : w'.heap[G]? = some (.cells (gCells st.c (.slice y.A y.m.length y.cc) (.slice B' (st.th.length + 1) lc') y.M (.slice y.E st.glo.length y.ec)) 60 (0, 0)))
    (hrow : w'.ownsRow 0 67 1 (.slice B' (st.th.length + 1) lc') (st.th.length + 1) ((y.ps.map fun p => .pointer (some ⟨p, 0, none⟩)) ++ [.pointer (some ⟨p, 0, none⟩)]))
    (hrowk : Col κ' (.slice B' (st.th.length + 1) lc') .r) (ht : ThR w' κ' st.th.length p t) : GRL w' κ' G { st with th := st.th ++ [t] } { y with B := B', lc := lc', ps := y.ps ++ [p] } := by
  have hx : ∀ x k, κ k = some x → x ≠ .g → x ≠ .r → ¬ (k = G ∨ κ k = some .r) := fun x k h1 h2 h3 e => by
    rcases e with e | e
    · subst e; rw [h.kG] at h1; injection h1 with h1; exact h2 h1.symm
    · rw [e] at h1; injection h1 with h1; exact h3 h1.symm
  have hup : ∀ x k, κ k = some x → κ' k = some x := fun x k hk => (hκ k (by rw [hk]; simp)).trans hk
  exact {
    dom := hdom
    blk := by simpa using hblk
    kG := hup _ _ h.kG
    shs := h.shs.only ho (fun k hk => hx _ _ (h.shk k hk) (by simp) (by simp)) (fun s hs k hk => hx _ _ (h.shk' s hs k hk) (by simp) (by simp))
    shm := h.shm, shk := fun k hk => hup _ _ (h.shk k hk), shk' := fun s hs k hk => hup _ _ (h.shk' s hs k hk), ok := h.ok
    row := by simpa using hrow
    rowk := by simpa using hrowk
    ths := fun i u hu => by
      dsimp only at hu ⊢
      by_cases hi : i < st.th.length
      · rw [List.getElem?_append_left hi] at hu
        obtain ⟨p', hp', ht'⟩ := h.ths i u hu
        obtain ⟨A, cr, q, b1, b2, b3, b4, b5, b6, b7⟩ := ht'.only ho (fun k hk => hx _ _ hk (by simp) (by simp)) (fun k hk => hx _ _ hk (by simp) (by simp))
        exact ⟨p', by rw [List.getElem?_append_left (by omega)]; exact hp', A, cr, q, b1, hup _ _ b2, b3, hup _ _ b4, b5, fun k hk => hup _ _ (b6 k hk), b7⟩
      · have hlt := (List.getElem?_eq_some_iff.1 hu).1
        simp at hlt
        obtain rfl : i = st.th.length := by omega
        simp at hu
        subst hu
        exact ⟨p, by rw [← hps]; simp, ht⟩
    map := by
      have := h.map.only h.mapk ho (fun k hk => hx _ _ hk (by simp) (by simp)) (fun k hk => hx _ _ hk (by simp) (by simp))
      revert this
      dsimp only
      cases st.loc with
      | none => exact fun h => h
      | some l => exact fun ⟨a, b, c, d⟩ => ⟨a, b, hup _ _ c, d⟩
    mapk := hup _ _ h.mapk
    glo := ho.own h.glo (fun k hk => hx _ _ (h.glok k hk) (by simp) (by simp))
    glok := fun k hk => hup _ _ (h.glok k hk) }
theorem GRL.psLen {G : Nat} {st : GS} {y : Ly} (h : GRL w κ G st y) : y.ps.length = st.th.length := by have := h.row.1; simpa using this
end

/-! ### The map of locals: its operations' runs -/
section
variable {P : Program} {w : World}
theorem setBlock_only (w : World) (b : Nat) (o : Obj) : Only (fun k => k = b) w (Go.ChangeMaps.setBlock w b o) := by
  refine ⟨rfl, rfl, rfl, by simp [Go.ChangeMaps.setBlock], fun k hk hn => ?_⟩
  simp only [Go.ChangeMaps.setBlock]
  rw [Array.getElem?_setIfInBounds_ne (fun e => hn e.symm)]
theorem key0 : keyOf Try.prog 3 (.int .i64 0) = some (.int .i64 0) := Maps.keyOf_int_mk Try.underlying3 (by decide)
theorem kd : Maps.Keyed Try.prog 3 := Maps.int_keyed Try.underlying3

theorem map_look0 {w : World} {M clock : Nat} (hb : w.heap[M]? = some (.map #[] clock)) : (Instr.lookup 57 (.map (some M)) (.int .i64 0) false).run Try.prog w = .ok (.slice none 0 0) w := by
  rcases kd.find w key0 [] (by simp) with ⟨h1, h2⟩ | ⟨j, e0, h1, h2, h3⟩
  · have hz : (zeroValue 51).run Try.prog w = .ok (.slice none 0 0) w := by kernel_rfl
    simp [Instr.lookup, run_underlying Try.underlying57, MapKept.run_getObj_map hb, kd.check w _ key0, h1, hz, Result.andThen]
  · simp at h2
theorem map_look1 {w : World} {M clock born : Nat} {v : Value} (hb : w.heap[M]? = some (.map #[⟨.int .i64 0, v, born⟩] clock)) : (Instr.lookup 57 (.map (some M)) (.int .i64 0) false).run Try.prog w = .ok v w := by
  rcases kd.find w key0 [⟨.int .i64 0, v, born⟩] (by simp [key0]) with ⟨h1, h2⟩ | ⟨j, e0, h1, h2, h3⟩
  · simp at h2
  · have hj : j = 0 := by
      cases j with
      | zero => rfl
      | succ j => simp at h2
    subst hj
    simp at h2
    subst h2
    simp [Instr.lookup, run_underlying Try.underlying57, MapKept.run_getObj_map hb, kd.check w _ key0, h1, Result.andThen]
theorem map_put0 {w : World} {M clock : Nat} {v : Value} (hb : w.heap[M]? = some (.map #[] clock)) : (Instr.mapUpdate 57 (.map (some M)) (.int .i64 0) v).run Try.prog w = .ok () (Go.ChangeMaps.setBlock w M (.map #[⟨.int .i64 0, v, clock⟩] (clock + 1))) := by
  rcases kd.find w key0 [] (by simp) with ⟨h1, h2⟩ | ⟨j, e0, h1, h2, h3⟩
  · simp [Instr.mapUpdate, run_underlying Try.underlying57, MapKept.run_getObj_map hb, kd.check w false key0, h1, MapKept.run_setObj_map _ hb, Result.andThen, Go.ChangeMaps.setBlock]
  · simp at h2
theorem map_del1 {w : World} {M clock born : Nat} {v : Value} (ty : TypeId) (hb : w.heap[M]? = some (.map #[⟨.int .i64 0, v, born⟩] clock)) : (Builtin.delete_ #[57, 3] ty #[.map (some M), .int .i64 0]).run Try.prog w = .ok (.tuple #[]) (Go.ChangeMaps.setBlock w M (.map #[] clock)) := by
  rcases kd.find w key0 [⟨.int .i64 0, v, born⟩] (by simp [key0]) with ⟨h1, h2⟩ | ⟨j, e0, h1, h2, h3⟩
  · simp at h2
  · have hj : j = 0 := by
      cases j with
      | zero => rfl
      | succ j => simp at h2
    subst hj
    simp at h2
    subst h2
    simp [Builtin.delete_, run_underlying Try.underlying57, MapKept.run_getObj_map hb, kd.check w _ key0, h1, MapKept.run_setObj_map _ hb, Result.andThen, Go.ChangeMaps.setBlock, Array.eraseIdxIfInBounds]
end

end Go.Proofs.Ytpllolefmijfdaa
