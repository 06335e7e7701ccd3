/-
  The contract of (*Graph).made.
-/
import Derived.Test.YtpllolefmijfdaaGr4
import Derived.Deep.DeepCutAuto
import Derived.Deep.CutBlock
import Derived.Laws.MakeOwn
import Derived.StillTailTactics
namespace Go.Proofs.Ytpllolefmijfdaa
open Go.RowKit

/-- While a thing is made. -/
def MdR (w : World) (κ : Nat → Option Cl) (G : Nat) (st : GS) (y : Ly) (w' : World) : Prop := GRL w' κ G st y ∧ Pure w w'
theorem MdR.keep {w : World} {κ : Nat → Option Cl} {G : Nat} {st : GS} {y : Ly} {a b : World} (h : MdR w κ G st y a) (k : Pure a b) : MdR w κ G st y b := ⟨h.1.pure k, h.2.then k⟩

theorem shape_new (w : World) (a : Bool) (v : Value) : (w.alloc (.cells #[.bool a, v] 46)).cell? ⟨w.heap.size, 0, none⟩ = some (.bool a) ∧ (w.alloc (.cells #[.bool a, v] 46)).cell? ⟨w.heap.size, 1, none⟩ = some v ∧
    (w.alloc (.cells #[.bool a, v] 46)).heap[w.heap.size]? = some (.cells #[.bool a, v] 46 (0, 0)) := by
  have h := heap_alloc_new w (.cells #[.bool a, v] 46)
  exact ⟨by rw [cell_of_row _ _ _ _ _ _ h]; rfl, by rw [cell_of_row _ _ _ _ _ _ h]; rfl, h⟩
theorem shape_fro {w w' : World} (hp : Pure w w') {b : Nat} {c : Array Value} {T : TypeId} (h : w.heap[b]? = some (.cells c T (0, 0))) (i : Nat) : w'.frozen? ⟨b, i, none⟩ = false := frozen_of_row w' b i _ _ (hp.blk h)

/-- The shape that made has got: in block X. -/
def ShC (W : World) (X : Nat) (a : Bool) (bs : List Bool) (A : Option Addr) (d : Nat) (w : World) : Prop :=
  Pure W w ∧ w.heap[X]? = some (.cells #[.bool a, .slice A bs.length d] 46 (0, 0)) ∧ SlG w w.heap.size (.slice A bs.length d) (bools bs) ∧ (∀ k, (Value.slice A bs.length d).ownBlock = some k → W.heap.size ≤ k ∧ k < w.heap.size) ∧ W.heap.size ≤ X
theorem ShC.after {W w : World} {a : Bool} {bs : List Bool} {A : Option Addr} {d : Nat} (hp : Pure W.drew w) (hs : SlG w w.heap.size (.slice A bs.length d) (bools bs)) (hf : ∀ k, (Value.slice A bs.length d).ownBlock = some k → W.drew.heap.size ≤ k ∧ k < w.heap.size) :
    ShC W w.heap.size a bs A d (w.alloc (.cells #[.bool a, .slice A bs.length d] 46)) :=
  ⟨Pure.then ((Only.refl _ W).drewN 1) (hp.alloc _), heap_alloc_new w _, hs.pure ((Only.refl _ w).alloc _), fun k hk => ⟨(hf k hk).1, by have := (hf k hk).2; simp; omega⟩, hp.size⟩
theorem ShC.before {W w : World} {a : Bool} {bs : List Bool} {A : Option Addr} {d : Nat} {u z : Value} (hp' : Pure (W.alloc (.cells #[u, z] 46)).drew w) (hs : SlG w w.heap.size (.slice A bs.length d) (bools bs))
    (hf : ∀ k, (Value.slice A bs.length d).ownBlock = some k → (W.alloc (.cells #[u, z] 46)).drew.heap.size ≤ k ∧ k < w.heap.size) :
    ShC W W.heap.size a bs A d ((w.setCell ⟨W.heap.size, 0, none⟩ (.bool a)).setCell ⟨W.heap.size, 1, none⟩ (.slice A bs.length d)) := by
  have hp : Pure (W.alloc (.cells #[u, z] 46)) w := Pure.then ((Only.refl _ _).drewN 1) hp'
  have hb := hp.blk (heap_alloc_new W (.cells #[u, z] 46))
  have hsz : (W.alloc (.cells #[u, z] 46)).drew.heap.size = W.heap.size + 1 := by simp
  have ho : Only (fun k => k = W.heap.size) w ((w.setCell ⟨W.heap.size, 0, none⟩ (.bool a)).setCell ⟨W.heap.size, 1, none⟩ (.slice A bs.length d)) := ((Only.refl (fun k => k = W.heap.size) w).setCell (p := ⟨W.heap.size, 0, none⟩) (fun _ => rfl) _).setCell (p := ⟨W.heap.size, 1, none⟩) (fun _ => rfl) _
  have h0 : Pure W w := Pure.then ((Only.refl (fun _ => False) W).alloc _) hp
  refine ⟨?_, by simp [World.setCell, Array.getElem?_modify, hb], hs.only ho (fun k hk e => by have := (hf k hk).1; omega), fun k hk => ⟨by have := (hf k hk).1; omega, by have := (hf k hk).2; simpa [World.setCell] using this⟩, Nat.le_refl _⟩
  exact (h0.setCell (p := ⟨W.heap.size, 0, none⟩) (fun h => absurd h (Nat.lt_irrefl _)) _).setCell (p := ⟨W.heap.size, 1, none⟩) (fun h => absurd h (Nat.lt_irrefl _)) _

theorem sh_before {W w : World} {u z : Value} (hp' : Pure (W.alloc (.cells #[u, z] 46)).drew w) :
    w.cell? ⟨W.heap.size, 0, none⟩ = some u ∧ w.cell? ⟨W.heap.size, 1, none⟩ = some z ∧ w.frozen? ⟨W.heap.size, 0, none⟩ = false ∧ w.frozen? ⟨W.heap.size, 1, none⟩ = false := by
  have hp : Pure (W.alloc (.cells #[u, z] 46)) w := Pure.then ((Only.refl _ _).drewN 1) hp'
  have hb := hp.blk (heap_alloc_new W (.cells #[u, z] 46))
  refine ⟨?_, ?_, frozen_of_row w _ _ _ _ hb, frozen_of_row w _ _ _ _ hb⟩ <;> (rw [cell_of_row w _ _ _ _ _ hb]; rfl)
theorem sh_after (w : World) (u z : Value) :
    (w.alloc (.cells #[u, z] 46)).cell? ⟨w.heap.size, 0, none⟩ = some u ∧ (w.alloc (.cells #[u, z] 46)).cell? ⟨w.heap.size, 1, none⟩ = some z ∧ (w.alloc (.cells #[u, z] 46)).frozen? ⟨w.heap.size, 0, none⟩ = false ∧ (w.alloc (.cells #[u, z] 46)).frozen? ⟨w.heap.size, 1, none⟩ = false := by
  have hb := heap_alloc_new w (.cells #[u, z] 46)
  refine ⟨?_, ?_, frozen_of_row _ _ _ _ _ hb, frozen_of_row _ _ _ _ _ hb⟩ <;> (rw [cell_of_row _ _ _ _ _ _ hb]; rfl)

/-- While a thing's fields are laid: the thing is in block p, its fields in block q. -/
structure MkR (W : World) (p q : Nat) (t : Th) (A : Option Addr) (d : Nat) (w : World) : Prop where
  pure : Pure W w
  pW : W.heap.size ≤ p
  qW : W.heap.size ≤ q
  pq : p ≠ q
  pB : w.heap[p]? = some (.cells #[.int .i64 t.kind, .int .i64 t.n, .bool t.a, .slice A t.rs.length d, .slice (some ⟨q, 0, none⟩) t.l.length t.l.length] 70 (0, 0))
  qB : w.heap[q]? = some (.cells (fcs t.l).toArray 32 (0, 0))
  sl : SlG w w.heap.size (.slice A t.rs.length d) (bools t.rs)
  own : ∀ k, (Value.slice A t.rs.length d).ownBlock = some k → W.heap.size ≤ k ∧ k ≠ p ∧ k ≠ q
  ownLt : ∀ k, (Value.slice A t.rs.length d).ownBlock = some k → k < w.heap.size
  len : t.l.length ≤ 1000000
theorem MkR.th {W : World} {p q : Nat} {t : Th} {A : Option Addr} {d : Nat} {w : World} (h : MkR W p q t A d w) : ThR w (fun k => if k = q then some (.q 0) else some .s) 0 p t :=
  ⟨A, d, q, h.pB, if_neg h.pq, h.qB, if_pos rfl, h.sl, fun k hk => if_neg (h.own k hk).2.2, h.len⟩
theorem MkR.put {W : World} {p q : Nat} {t : Th} {A : Option Addr} {d : Nat} {w : World} (h : MkR W p q t A d w) (j x z : Nat) : MkR W p q { t with l := t.l.set j (x, z) } A d (w.setCell ⟨q, j, none⟩ (.complex .f64 x z)) := by
  have ho : Only (fun k => k = q) w (w.setCell ⟨q, j, none⟩ (.complex .f64 x z)) := (Only.refl (fun k => k = q) w).setCell (p := ⟨q, j, none⟩) (fun _ => rfl) _
  refine ⟨h.pure.setCell (p := ⟨q, j, none⟩) (fun h' => absurd h' (Nat.not_lt.2 h.qW)) _, h.pW, h.qW, h.pq, ?_, ?_, h.sl.only ho (fun k hk e => (h.own k hk).2.2 e), h.own, fun k hk => by simpa [World.setCell] using h.ownLt k hk, by simpa using h.len⟩
  · dsimp only; rw [List.length_set]; exact ho.blk h.pB h.pq
  · have := h.qB
    simp [World.setCell, Array.getElem?_modify, this, ← fcs_set]

theorem cx_info : (Try.prog.info? 32).map (fun i => (i.zero, i.size, i.bytes)) = some (some (.complex .f64 0 0), 1, 16) := by kernel_rfl
theorem vl_info : (Try.prog.info? 34).map (fun i => (i.zero, i.size, i.bytes)) = some (some (.agg #[.bool false, .complex .f64 0 0]), 2, 24) := by kernel_rfl
theorem make_cx (m : Nat) (hm : m ≤ 1000000) (w : World) : (Instr.makeSlice 68 (.int .i64 m) (.int .i64 m)).run Try.prog w = .ok (.slice (some ⟨w.heap.size, 0, none⟩) m m) (w.alloc (.cells (fcs (List.replicate m (0, 0))).toArray 32)) := by
  obtain ⟨i0, hi0, hz0, hz1, hz2⟩ := info_parts cx_info
  rw [run_make w 68 32 i0 _ Try.underlying68 hi0 hz0 .i64 .i64 m m (by omega) (by omega) (by rw [hz2]; omega) (by omega)]
  have e : madeCells (Value.complex .f64 0 0).cells ((m : Int).toNat * i0.size) = (fcs (List.replicate m (0, 0))).toArray := by
    rw [hz1, Int.toNat_natCast, Nat.mul_one]
    apply Array.ext
    · simp [fcs_length, size_madeCells]
    · intro i h1 h2
      simp [madeCells, fcs, Value.cells, Nat.mod_one]
  rw [e]
  simp

/-- Its fields have just been made. -/
theorem MkR.new {W w : World} {p : Nat} {kd n : Int} {a : Bool} {rs : List Bool} {A : Option Addr} {d : Nat} (l : List (Nat × Nat)) (hp : Pure W w) (pW : W.heap.size ≤ p)
    (hb : w.heap[p]? = some (.cells #[.int .i64 kd, .int .i64 n, .bool a, .slice A rs.length d, .slice none 0 0] 70 (0, 0))) (hs : SlG w w.heap.size (.slice A rs.length d) (bools rs))
    (ho : ∀ k, (Value.slice A rs.length d).ownBlock = some k → W.heap.size ≤ k ∧ k < p) (hl : l.length ≤ 1000000) :
    MkR W p w.heap.size ⟨kd, n, a, rs, l⟩ A d ((w.setCell ⟨p, 4, none⟩ (.slice (some ⟨w.heap.size, 0, none⟩) l.length l.length)).alloc (.cells (fcs l).toArray 32)) := by
  have hlt := (Array.getElem?_eq_some_iff.1 hb).1
  have h1 : Only (fun k => k = p) w (w.setCell ⟨p, 4, none⟩ (.slice (some ⟨w.heap.size, 0, none⟩) l.length l.length)) := (Only.refl (fun k => k = p) _).setCell (p := ⟨p, 4, none⟩) (fun _ => rfl) _
  have hsz : (w.setCell ⟨p, 4, none⟩ (.slice (some ⟨w.heap.size, 0, none⟩) l.length l.length)).heap.size = w.heap.size := by simp [World.setCell]
  have hb1 : (w.setCell ⟨p, 4, none⟩ (.slice (some ⟨w.heap.size, 0, none⟩) l.length l.length)).heap[p]? = some (.cells #[.int .i64 kd, .int .i64 n, .bool a, .slice A rs.length d, .slice (some ⟨w.heap.size, 0, none⟩) l.length l.length] 70 (0, 0)) := by
    simp [World.setCell, Array.getElem?_modify, hb]
  have h2 := (Only.refl (fun _ => False) (w.setCell ⟨p, 4, none⟩ (.slice (some ⟨w.heap.size, 0, none⟩) l.length l.length))).alloc (.cells (fcs l).toArray 32)
  have hq := heap_alloc_new (w.setCell ⟨p, 4, none⟩ (.slice (some ⟨w.heap.size, 0, none⟩) l.length l.length)) (.cells (fcs l).toArray 32)
  rw [hsz] at hq
  exact ⟨(hp.setCell (p := ⟨p, 4, none⟩) (fun h' => absurd h' (Nat.not_lt.2 pW)) _).alloc _, pW, hp.size, by omega, Pure.blk h2 hb1, hq, (hs.only h1 (fun k hk e => by have := (ho k hk).2; omega)).pure h2, fun k hk => ⟨(ho k hk).1, by have := (ho k hk).2; omega, by have := (ho k hk).2; omega⟩, fun k hk => by have := (ho k hk).2; simp [World.setCell]; omega, hl⟩
theorem MkR.drew {W : World} {p q : Nat} {t : Th} {A : Option Addr} {d : Nat} {w : World} (h : MkR W p q t A d w) : MkR W p q t A d w.drew := ⟨h.pure.drewN 1, h.pW, h.qW, h.pq, h.pB, h.qB, h.sl.pure ((Only.refl _ w).drewN 1), h.own, h.ownLt, h.len⟩
theorem MkR.at {W : World} {p q : Nat} {t : Th} {A : Option Addr} {d : Nat} {w : World} (h : MkR W p q t A d w) {j : Nat} (hj : j < t.l.length) :
    w.cell? ⟨p, 4, none⟩ = some (.slice (some ⟨q, 0, none⟩) t.l.length t.l.length) ∧ (∃ x z, w.cell? ⟨q, j, none⟩ = some (.complex .f64 x z)) ∧ w.frozen? ⟨q, j, none⟩ = false := by
  refine ⟨by rw [cell_of_row w p _ _ _ _ h.pB]; rfl, ?_, frozen_of_row w q _ _ _ h.qB⟩
  refine ⟨(t.l[j]).1, (t.l[j]).2, ?_⟩
  rw [cell_of_row w q _ _ _ _ h.qB, List.getElem?_toArray]
  exact fcs_get t.l j _ (List.getElem?_eq_getElem hj)
theorem MkR.len4 {W : World} {p q : Nat} {t : Th} {A : Option Addr} {d : Nat} {w : World} (h : MkR W p q t A d w) : w.cell? ⟨p, 4, none⟩ = some (.slice (some ⟨q, 0, none⟩) t.l.length t.l.length) := by rw [cell_of_row w p _ _ _ _ h.pB]; rfl

/-- The fields, the first j of them laid. -/
def flJ (a : Bool) (bs : List Bool) (m j : Nat) : List (Nat × Nat) := (List.range m).map fun i => if i < j ∧ (if a then bs[0]? else bs[i]?) = some true then (0, 4607182418800017408) else (0, 0)
theorem flJ_length (a : Bool) (bs : List Bool) (m j : Nat) : (flJ a bs m j).length = m := by simp [flJ]
theorem flJ_zero (a : Bool) (bs : List Bool) (m : Nat) : flJ a bs m 0 = List.replicate m (0, 0) := by
  simp [flJ, List.map_const']
theorem flJ_yes (a : Bool) (bs : List Bool) (m j : Nat) (_hj : j < m) (h : (if a then bs[0]? else bs[j]?) = some true) : (flJ a bs m j).set j (0, 4607182418800017408) = flJ a bs m (j + 1) := by
  apply List.ext_getElem
  · simp [flJ]
  · intro i h1 h2
    simp only [flJ, List.length_map, List.length_range] at h2
    rw [List.getElem_set]
    by_cases e : j = i
    · subst e
      simp [flJ, h]
    · simp only [if_neg e, flJ, List.getElem_map, List.getElem_range]
      have : i < j + 1 ↔ i < j := by omega
      simp only [this]
theorem flJ_no (a : Bool) (bs : List Bool) (m j : Nat) (h : (if a then bs[0]? else bs[j]?) = some false) : flJ a bs m j = flJ a bs m (j + 1) := by
  unfold flJ
  refine List.map_congr_left fun i _ => ?_
  by_cases e : i = j
  · subst e
    simp [h]
  · have : i < j + 1 ↔ i < j := by omega
    simp only [this]
theorem flJ_end (a : Bool) (bs : List Bool) (m : Nat) : flJ a bs m m = (List.range m).map fun i => if (if a then bs[0]? else bs[i]?) = some true then (0, 4607182418800017408) else (0, 0) := by
  unfold flJ
  refine List.map_congr_left fun i hi => ?_
  simp at hi
  simp [hi]
theorem pt_info : (Try.prog.info? 67).map (fun i => (i.zero, i.size, i.bytes)) = some (some (.pointer none), 1, 8) := by kernel_rfl

/-- What stands behind append. -/
theorem app_keep {w w3 w4 : World} {κ : Nat → Option Cl} {G R : Nat} {st : GS} {y : Ly} {o : Obj} {u z : Value} {T : TypeId} (h : GRL w κ G st y) (hp : Pure w w3) (hR : w.heap.size ≤ R) (hb : w3.heap[R]? = some (.cells #[u, z] T (0, 0)))
    (hg : (w3.alloc o).grownBy w4 (Value.slice y.B st.th.length y.lc).ownBlock) :
    w4.cell? ⟨G, 9, none⟩ = some (.slice y.B st.th.length y.lc) ∧ w4.frozen? ⟨G, 9, none⟩ = false ∧ w4.cell? ⟨R, 0, none⟩ = some u ∧ w4.cell? ⟨R, 1, none⟩ = some z ∧ w4.frozen? ⟨R, 0, none⟩ = false ∧ w4.frozen? ⟨R, 1, none⟩ = false ∧ G ≠ R ∧ R ≠ G := by
  have h3 := h.pure hp
  have o4 : Only (fun k => κ k = some .r) w3 w4 := (((Only.refl _ w3).alloc o)).grown hg (fun k hk e => h.rowk k e)
  have hGlt : G < w.heap.size := h.dom G (by rw [h.kG]; simp)
  have hbG := o4.blk h3.blk (fun e => by rw [h.kG] at e; simp at e)
  have hbR := o4.blk hb (fun e => by have := h.dom R (by rw [e]; simp); omega)
  refine ⟨by rw [cell_of_row w4 G _ _ _ _ hbG]; rfl, frozen_of_row w4 G _ _ _ hbG, by rw [cell_of_row w4 R _ _ _ _ hbR]; rfl, by rw [cell_of_row w4 R _ _ _ _ hbR]; rfl, frozen_of_row w4 R _ _ _ hbR, frozen_of_row w4 R _ _ _ hbR, by omega, by omega⟩

/-- From w on the graph has become st: only its blocks, and new ones, have changed. -/
def GNew (w : World) (κ : Nat → Option Cl) (G : Nat) (st : GS) (lb : Nat) (w' : World) : Prop :=
  ∃ κ' y', GRL w' κ' G st y' ∧ y'.lb = lb ∧ Only (fun q => κ q ≠ none) w w' ∧ (∀ q, q < w.heap.size → κ' q = κ q)

/-- The thing is made. -/
theorem made_end {w W2 w3 w4 w6 : World} {κ : Nat → Option Cl} {G p q R : Nat} {st : GS} {y : Ly} {t : Th} {A : Option Addr} {d : Nat} {v' : Value} (h : GRL w κ G st y) (h2 : Pure w W2) (hM : MkR W2 p q t A d w3) (hR : w.heap.size ≤ R ∧ R < W2.heap.size)
    (hrow : w4.ownsRow 0 67 1 v' (st.th.length + 1) ((y.ps.map fun p => .pointer (some ⟨p, 0, none⟩)) ++ [.pointer (some ⟨p, 0, none⟩)]))
    (hg : (w3.alloc (.cells #[.pointer (some ⟨p, 0, none⟩)] 67)).grownBy w4 (Value.slice y.B st.th.length y.lc).ownBlock)
    (hat : v'.ownBlock = (Value.slice y.B st.th.length y.lc).ownBlock ∨ v'.ownBlock = some (w3.alloc (.cells #[.pointer (some ⟨p, 0, none⟩)] 67)).heap.size)
    (h6 : Only (fun k => k = R) (w4.setCell ⟨G, 9, none⟩ v') w6) :
    GNew w κ G { st with th := st.th ++ [t] } y.lb w6 := by
  have hp3 : Pure w w3 := h2.then hM.pure
  have h3 := h.pure hp3
  have hwa : Pure w3 (w3.alloc (.cells #[.pointer (some ⟨p, 0, none⟩)] 67)) := (Only.refl _ _).alloc _
  have hrowk : ∀ k, (Value.slice y.B st.th.length y.lc).ownBlock = some k → κ k = some .r := h.rowk
  have hs2 := h2.size
  have hs3 := hM.pure.size
  have hsa : (w3.alloc (.cells #[.pointer (some ⟨p, 0, none⟩)] 67)).heap.size = w3.heap.size + 1 := by simp
  have hs4 := hg.size
  have hs6 := h6.size
  have hs5 : (w4.setCell ⟨G, 9, none⟩ v').heap.size = w4.heap.size := by simp [World.setCell]
  -- what has changed since w3
  have o4 : Only (fun k => κ k = some .r) w3 w4 := (hwa.mono (fun _ _ f => f.elim)).grown hg (fun k hk e => hrowk k e)
  have o5 : Only (fun k => k = G ∨ κ k = some .r) w3 (w4.setCell ⟨G, 9, none⟩ v') := (o4.mono (fun _ _ e => .inr e)).setCell (p := ⟨G, 9, none⟩) (fun _ => .inl rfl) _
  have o6 : Only (fun k => k = G ∨ κ k = some .r ∨ k = R) w3 w6 := (o5.mono (fun _ _ e => e.elim .inl (fun e => .inr (.inl e)))).trans h6 (fun _ _ e => .inr (.inr e))
  have hGlt : G < w.heap.size := h.dom G (by rw [h.kG]; simp)
  have hno : ∀ k, w.heap.size ≤ k → κ k = none := fun k hk => Classical.byContradiction fun hn => by have := h.dom k hn; omega
  have hout : ∀ k, W2.heap.size ≤ k → ¬ (k = G ∨ κ k = some .r ∨ k = R) := fun k hk e => by
    rcases e with e | e | e
    · omega
    · rw [hno k (by omega)] at e; simp at e
    · omega
  have oW : Only (fun k => k = G ∨ κ k = some .r) w w6 :=
    ((hp3.mono (fun _ _ f => f.elim)).trans o6 (fun k hk e => match e with | .inl e => .inl e | .inr (.inl e) => .inr e | .inr (.inr e) => absurd e (by omega)))
  obtain ⟨B', lc', rfl⟩ := own_form hrow
  have hv' : ∀ k, (Value.slice B' (st.th.length + 1) lc').ownBlock = some k → (κ k = some .r ∧ k < w.heap.size) ∨ k = w3.heap.size + 1 := by
    intro k hk
    rcases hat with e | e
    · rw [e] at hk
      have := hrowk k hk
      exact .inl ⟨this, h.dom k (by rw [this]; simp)⟩
    · rw [hk] at e
      injection e with e
      exact .inr (by omega)
  have hG5 : (w4.setCell ⟨G, 9, none⟩ (.slice B' (st.th.length + 1) lc')).heap[G]? = some (.cells (gCells st.c (.slice y.A y.m.length y.cc) (.slice B' (st.th.length + 1) lc') y.M (.slice y.E st.glo.length y.ec)) 60 (0, 0)) := by
    have hb := o4.blk h3.blk (fun e => by rw [h.kG] at e; simp at e)
    simp [World.setCell, Array.getElem?_modify, hb]
  have hrow6 : w6.ownsRow 0 67 1 (.slice B' (st.th.length + 1) lc') (st.th.length + 1) ((y.ps.map fun p => .pointer (some ⟨p, 0, none⟩)) ++ [.pointer (some ⟨p, 0, none⟩)]) := by
    have o46 : Only (fun k => k = G ∨ k = R) w4 w6 := (((Only.refl (fun k => k = G ∨ k = R) w4).setCell (p := ⟨G, 9, none⟩) (fun _ => .inl rfl) _)).trans h6 (fun _ _ e => .inr e)
    refine o46.own hrow fun k hk e => ?_
    rcases hv' k hk with ⟨h1, h2⟩ | h1
    · rcases e with e | e
      · rw [e, h.kG] at h1; simp at h1
      · omega
    · rcases e with e | e <;> omega
  have oS : Only (fun q => κ q ≠ none) w w6 := oW.mono (fun k _ e => match e with | .inl e => by rw [e, h.kG]; simp | .inr e => by rw [e]; simp)
  refine ⟨fun k => if k < w.heap.size then κ k else if k = p then some .s else if k = q then some (.q st.th.length) else if (Value.slice A t.rs.length d).ownBlock = some k then some .s else if (Value.slice B' (st.th.length + 1) lc').ownBlock = some k then some .r else none, { y with B := B', lc := lc', ps := y.ps ++ [p] }, ?_, rfl, oS, fun k hk => if_pos hk⟩
  have hpp := hM.pW
  have hqq := hM.qW
  refine h.addThing (p := p) _ (fun k hk => if_pos (h.dom k hk)) (fun k hk => ?_) oW h.psLen (h6.blk hG5 (by omega)) hrow6 (fun k hk => ?_) ?_
  · have hplt := (Array.getElem?_eq_some_iff.1 hM.pB).1
    have hqlt := (Array.getElem?_eq_some_iff.1 hM.qB).1
    by_cases c1 : k < w.heap.size
    · omega
    · by_cases c2 : k = p
      · omega
      · by_cases c3 : k = q
        · omega
        · by_cases c4 : (Value.slice A t.rs.length d).ownBlock = some k
          · have := hM.ownLt k c4
            omega
          · by_cases c5 : (Value.slice B' (st.th.length + 1) lc').ownBlock = some k
            · have := (hrow6.lt k c5).2
              omega
            · exact absurd (((((if_neg c1).trans (if_neg c2)).trans (if_neg c3)).trans (if_neg c4)).trans (if_neg c5)) hk
  · rcases hv' k hk with ⟨h1, h2⟩ | h1
    · exact (if_pos h2).trans h1
    · have hplt := (Array.getElem?_eq_some_iff.1 hM.pB).1
      have hqlt := (Array.getElem?_eq_some_iff.1 hM.qB).1
      show (if k < w.heap.size then _ else _) = _
      rw [if_neg (by omega), if_neg (by omega), if_neg (by omega), if_neg (fun e => by have := hM.ownLt k e; omega), if_pos hk]
  · refine ⟨A, d, q, o6.blk hM.pB (hout p hpp), ?_, o6.blk hM.qB (hout q hqq), ?_, hM.sl.only o6 (fun k hk => hout k (hM.own k hk).1), fun k hk => ?_, hM.len⟩
    · exact (if_neg (by omega)).trans (if_pos rfl)
    · exact ((if_neg (by omega)).trans (if_neg (fun e => hM.pq e.symm))).trans (if_pos rfl)
    · have := hM.own k hk
      exact (((if_neg (by omega)).trans (if_neg this.2.1)).trans (if_neg this.2.2)).trans (if_pos hk)

/-- What is made. -/
def mdTh (bn : Nat) (sa : Bool) (n : Int) (bs : List Bool) (m : Nat) : Th := ⟨bn, if sa then n else 0, sa, bs, (List.range m).map fun i => if (if sa then bs[0]? else bs[i]?) = some true then (0, 4607182418800017408) else (0, 0)⟩

set_option maxRecDepth 100000 in
set_option maxHeartbeats 2000000 in
theorem made_any {w : World} {κ : Nat → Option Cl} {G : Nat} {st : GS} {y : Ly} (h : GRL w κ G st y) (k a c n : Int) (x z : Nat) (bn : Nat) (sa : Bool) (bs : List Bool) (hs : st.sh[bn]? = some (sa, bs)) (hlen : st.th.length ≤ 100000) (m : Nat) (hm : m = if sa then n.toNat else bs.length) (hn0 : 0 ≤ n) (hm1 : m ≤ 1000) :
    Calls Try.prog 52 #[.pointer (some ⟨G, 0, none⟩), .agg #[.int .i64 k, .int .i64 a, .int .i64 bn, .int .i64 c, .int .i64 n, .complex .f64 x z]] w fun e w' => e = .returned (vlV (refVl st.th.length)) ∧
      GNew w κ G { st with th := st.th ++ [mdTh bn sa n bs m] } y.lb w' := by
  obtain ⟨s, hs', hsa, hsb⟩ : ∃ s : Sh, y.m[bn]? = some s ∧ s.a = sa ∧ s.bs = bs := by
    rw [← h.shm, List.getElem?_map, Option.map_eq_some_iff] at hs
    obtain ⟨s, h1, h2⟩ := hs
    injection h2 with h2 h3
    exact ⟨s, h1, h2, h3⟩
  subst hsa; subst hsb
  have hml : s.bs.length ≤ 1000000 := h.shLen (List.mem_of_getElem? hs')
  clear hs
  have HS := Lib.hid hs'
  clear hs'
  have hp2 : Pure w ((w.alloc (.cells #[.int .i64 k, .int .i64 a, .int .i64 bn, .int .i64 c, .int .i64 n, .complex .f64 x z] 38)).alloc (.cells #[.bool false, .complex .f64 0 0] 34)) := ((Only.refl _ _).alloc _).alloc _
  have hop := Pure.blk ((Only.refl (fun _ => False) _).alloc (.cells #[.bool false, .complex .f64 0 0] 34)) (heap_alloc_new w (.cells #[.int .i64 k, .int .i64 a, .int .i64 bn, .int .i64 c, .int .i64 n, .complex .f64 x z] 38))
  have hrb := heap_alloc_new (w.alloc (.cells #[.int .i64 k, .int .i64 a, .int .i64 bn, .int .i64 c, .int .i64 n, .complex .f64 x z] 38)) (.cells #[.bool false, .complex .f64 0 0] 34)
  rw [show (w.alloc (.cells #[.int .i64 k, .int .i64 a, .int .i64 bn, .int .i64 c, .int .i64 n, .complex .f64 x z] 38)).heap.size = w.heap.size + 1 from by simp] at hrb
  have hrr : w.heap.size ≤ w.heap.size + 1 ∧ w.heap.size + 1 < ((w.alloc (.cells #[.int .i64 k, .int .i64 a, .int .i64 bn, .int .i64 c, .int .i64 n, .complex .f64 x z] 38)).alloc (.cells #[.bool false, .complex .f64 0 0] 34)).heap.size := by simp
  have h2 := h.pure hp2
  obtain ⟨c0, c1, c2, c3, c4, c5, c6, c7, c8⟩ := h2.cells
  obtain ⟨o0, o1, o2, o3, o4, o5⟩ := op6 hop
  have D2 := Lib.hid (show MdR w κ G st y _ from ⟨h2, hp2⟩)
  have HO := Lib.hid hop
  have HRB := Lib.hid hrb
  have HR := Lib.hid hrr
  have HG := Lib.hid h
  clear hp2 h2 hop h hrb hrr
  go_enter Try.func52, Try.ntmps52
  go_wp2_with fail
  generalize (w.alloc (.cells #[.int .i64 k, .int .i64 a, .int .i64 bn, .int .i64 c, .int .i64 n, .complex .f64 x z] 38)).alloc (.cells #[.bool false, .complex .f64 0 0] 34) = W2 at *
  go_cut [5, 6] (fun s5 s6 wx => s6 = .bool true ∧ ∃ (X : Nat) (A6 : Option Addr) (d6 : Nat), s5 = .pointer (some ⟨X, 0, none⟩) ∧ ShC W2 X s.a s.bs A6 d6 wx)
  case first =>
    have D2W := D2.out.1
    have hsh := D2W.shs
    have HSH := Lib.hid hsh
    have hG0 : G < w.heap.size := HG.out.dom G (by rw [HG.out.kG]; simp)
    have hR0 := HR.out
    have u0 : ¬ w.heap.size = W2.heap.size := by omega
    have u1 : ¬ W2.heap.size = w.heap.size := by omega
    have u2 : ¬ G = W2.heap.size := by omega
    have u3 : ¬ W2.heap.size = G := by omega
    have hpa := (Only.refl (fun _ => False) W2).alloc (.cells #[.bool false, .slice none 0 0] 46)
    obtain ⟨-, -, v2, -, -, -⟩ := op6 (Pure.blk hpa HO.out)
    obtain ⟨d0, d1, d2, d3, d4, d5, d6, d7, d8⟩ := (HG.out.pure (D2.out.2.then hpa)).cells
    clear hsh D2W hm hm1 hn0 hG0 hR0 hpa
    go_region_with ((go_at_call 47; (refine (shape_in st.c (.slice y.A y.m.length y.cc) y.m bn s _ (by first | exact HSH.out.pure ((Only.refl _ _).drewN 1) | exact HSH.out.pure (((Only.refl _ _).alloc _).drewN 1)) HS.out hml).mono ?_; rintro e w' ⟨A6, d6, rfl, hp6, hs6, hf6⟩; have HP6 := Lib.hid hp6; have HS6 := Lib.hid hs6; have HF6 := Lib.hid hf6; clear hp6 hs6 hf6; (first | (have nn := sh_before (W := W2) (u := .bool false) (z := .slice none 0 0) HP6.out) | (have nn := sh_after w' (.bool false) (.slice none 0 0))); obtain ⟨n0, n1, n2, n3⟩ := nn)))
    all_goals (go_wp2_with fail)
    all_goals go_meet
    all_goals first
      | exact ⟨rfl, _, A6, d6, rfl, ShC.after HP6.out HS6.out HF6.out⟩
      | exact ⟨rfl, _, A6, d6, rfl, ShC.before HP6.out HS6.out HF6.out⟩
  case rest =>
    obtain ⟨rfl, X, A6, d6, rfl, hC⟩ := hcut
    obtain ⟨WC, rfl⟩ : ∃ W, W = wc := ⟨_, rfl⟩
    obtain ⟨sa, sv, sbs⟩ := s
    dsimp only at *
    obtain ⟨hP, hX, hS6, hO6, hX0⟩ := hC
    have HX := Lib.hid hX
    have HS6 := Lib.hid hS6
    have HO6 := Lib.hid hO6
    have HO2 := Lib.hid (Pure.blk hP HO.out)
    have D3 := Lib.hid (D2.out.keep hP)
    have HP := Lib.hid hP
    have HM := Lib.hid hm
    have hp3 := (Only.refl (fun _ => False) WC).alloc (.cells #[.int .i64 bn, .int .i64 0, .bool sa, .slice A6 sbs.length d6, .slice none 0 0] 70)
    have H3 := heap_alloc_new WC (.cells #[.int .i64 bn, .int .i64 0, .bool sa, .slice A6 sbs.length d6, .slice none 0 0] 70)
    obtain ⟨o0, o1, o2, o3, o4, o5⟩ := op6 (Pure.blk hp3 HO2.out)
    have x0 : (WC.alloc (.cells #[.int .i64 bn, .int .i64 0, .bool sa, .slice A6 sbs.length d6, .slice none 0 0] 70)).cell? ⟨X, 0, none⟩ = some (.bool sa) := by rw [cell_of_row _ _ _ _ _ _ (Pure.blk hp3 HX.out)]; rfl
    have x1 : (WC.alloc (.cells #[.int .i64 bn, .int .i64 0, .bool sa, .slice A6 sbs.length d6, .slice none 0 0] 70)).cell? ⟨X, 1, none⟩ = some (.slice A6 sbs.length d6) := by rw [cell_of_row _ _ _ _ _ _ (Pure.blk hp3 HX.out)]; rfl
    have y0 : WC.cell? ⟨X, 0, none⟩ = some (.bool sa) := by rw [cell_of_row _ _ _ _ _ _ HX.out]; rfl
    have y1 : WC.cell? ⟨X, 1, none⟩ = some (.slice A6 sbs.length d6) := by rw [cell_of_row _ _ _ _ _ _ HX.out]; rfl
    obtain ⟨-, -, y2, -, -, -⟩ := op6 HO2.out
    have H3' := Lib.hid H3
    have P3 := Lib.hid hp3
    clear H3 hp3 hP hX hS6 hO6 hm
    go_upto_if 29 with fail
    clear x0 x1 y0 y1 y2
    go_cut [8] (fun s8 wx => s8 = .int .i64 m ∧ wx.heap[WC.heap.size]? = some (.cells #[.int .i64 bn, .int .i64 (if sa = true then n else 0), .bool sa, .slice A6 sbs.length d6, .slice none 0 0] 70 (0, 0)) ∧ Pure WC wx)
    case first =>
      cases sa
      · have hm' : m = sbs.length := HM.out
        clear o0 o1 o2 o3 o4 o5
        go_wp2_with fail
        go_meet
        exact ⟨by rw [hm'], H3'.out, P3.out⟩
      · have hm' : n.toNat = m := HM.out.symm
        have hn' : n = (m : Int) := by omega
        have f0 : (WC.alloc (.cells #[.int .i64 bn, .int .i64 0, .bool true, .slice A6 sbs.length d6, .slice none 0 0] 70)).cell? ⟨WC.heap.size, 1, none⟩ = some (.int .i64 0) := by rw [cell_of_row _ _ _ _ _ _ H3'.out]; rfl
        have f1 := frozen_of_row _ _ 1 _ _ H3'.out
        have HN := Lib.hid hn'
        clear hm' hn' o0 o1 o2 o3 o5
        go_upto_region 5 with fail
        go_region_with (fail)
        all_goals (go_wp2_with fail)
        all_goals go_meet
        all_goals exact ⟨by rw [HN.out], heap_alloc_new WC _, ((Only.refl _ WC).alloc _).drewN 1⟩
    case rest =>
      obtain ⟨rfl, hT, hP5⟩ := hcut
      obtain ⟨W5, rfl⟩ : ∃ W, W = wc := ⟨_, rfl⟩
      have hmk := make_cx m (by omega)
      have hsz5 := hP5.size
      have hszW := HP.out.size
      have hltp := (Array.getElem?_eq_some_iff.1 hT).1
      have hM5 : MkR W2 WC.heap.size W5.heap.size ⟨bn, (if sa = true then n else 0), sa, sbs, List.replicate m (0, 0)⟩ A6 d6 _ := MkR.new (List.replicate m (0, 0)) (HP.out.then hP5) hszW hT (HS6.out.pure hP5) HO6.out (by simp; omega)
      rw [List.length_replicate] at hM5
      have t6 := hM5.len4
      rw [List.length_replicate] at t6
      have t4 : (W5.alloc (.cells (fcs (List.replicate m (0, 0))).toArray 32)).cell? ⟨WC.heap.size, 4, none⟩ = some (.slice none 0 0) := by rw [cell_of_row _ _ _ _ _ _ (Pure.blk ((Only.refl _ W5).alloc _) hT)]; rfl
      have t5 : (W5.alloc (.cells (fcs (List.replicate m (0, 0))).toArray 32)).frozen? ⟨WC.heap.size, 4, none⟩ = false := frozen_of_row _ _ 4 _ _ (Pure.blk ((Only.refl _ W5).alloc _) hT)
      have M5 := Lib.hid hM5
      have HT := Lib.hid hT
      have P5 := Lib.hid hP5
      have HML := Lib.hid (show mayB sa sbs.length = true from checkI_may D2.out.1.ok (List.mem_of_getElem? HS.out))
      clear hM5 hT hP5 o0 o1 o2 o3 o4 o5 hn0
      go_wp2_with fail
      clear t4 t5 t6 hmk
      go_loopw [47] (fun i wr => ∃ j : Nat, j ≤ m ∧ i = .int .i64 j ∧ MkR W2 WC.heap.size W5.heap.size ⟨bn, (if sa = true then n else 0), sa, sbs, flJ sa sbs m j⟩ A6 d6 wr) (fun i _ => m - (intOf i).toNat)
      case atStart => exact ⟨0, Nat.zero_le _, rfl, by rw [flJ_zero]; exact M5.out⟩
      case round =>
        obtain ⟨j, hj, rfl, hM⟩ := hrel
        have HMJ := Lib.hid hM
        clear hM
        by_cases hlt : j < m
        · obtain ⟨b, hb⟩ : ∃ b, (if sa then sbs[0]? else sbs[j]?) = some b := by
            have hml' := HML.out
            have hm' := HM.out
            cases sa
            · simp only [Bool.false_eq_true, if_false] at hm' ⊢
              exact ⟨_, List.getElem?_eq_getElem (by omega)⟩
            · have h1 : sbs.length = 1 := by simp [mayB] at hml'; omega
              simp only [if_true]
              exact ⟨_, List.getElem?_eq_getElem (by omega)⟩
          have HB := Lib.hid hb
          obtain ⟨q4, ⟨u0, u1, q5⟩, q6⟩ := HMJ.out.at (j := j) (by rw [flJ_length]; exact hlt)
          rw [flJ_length] at q4
          clear hb
          cases b
          · go_wp2_with fail
            refine (ref_any HMJ.out.th j false HB.out hml).mono ?_
            rintro e w' ⟨rfl, rfl⟩
            go_wp2_with fail
            go_roundw
            case rel => exact ⟨j + 1, hlt, by go_num, by rw [← flJ_no sa sbs m j HB.out]; exact HMJ.out⟩
            case measure => simp [intOf]; omega
          · go_wp2_with fail
            refine (ref_any HMJ.out.th j true HB.out hml).mono ?_
            rintro e w' ⟨rfl, rfl⟩
            go_wp2_with fail
            go_region_with ((go_at_call 40; refine (none_any _).mono ?_; rintro e w' ⟨rfl, rfl⟩))
            all_goals (go_wp2_with fail)
            all_goals exact ⟨⟨j + 1, hlt, by go_num, by rw [← flJ_yes sa sbs m j hlt HB.out]; exact (HMJ.out.put j 0 4607182418800017408).drew⟩, by simp [intOf]; omega⟩
        · obtain rfl : j = m := by omega
          have HMF := Lib.hid (flJ_end sa sbs j ▸ HMJ.out)
          have hp3 := HMF.out.pure
          have h3 := D2.out.1.pure hp3
          have c9 := h3.c9
          have f9 := h3.fro 9
          have HRB3 := Lib.hid (Pure.blk hp3 HRB.out)
          have HPW := Lib.hid (Pure.then D2.out.2 hp3)
          have OWN := Lib.hid (World.ownsRow.alloc h3.row (.cells #[.pointer (some ⟨WC.heap.size, 0, none⟩)] 67))
          obtain ⟨i0, hi0, hz0, hz1, hz2⟩ := info_parts pt_info
          clear hp3 h3
          go_wp2_with (at_builtin; refine wpList_app _ rfl (.tmp 65) (.tmp 67) _ rfl 0 67 i0 _ 1 8 Try.underlying58 hi0 hz0 hz1 hz2 rfl (by omega) (.slice y.B st.th.length y.lc) st.th.length _ rfl OWN.out _ 1 1 [.pointer (some ⟨WC.heap.size, 0, none⟩)] rfl (Src.row wr _ #[.pointer (some ⟨WC.heap.size, 0, none⟩)] 1 1 _ rfl rfl) (by simp [Value.oneCell']) (by simp only [maxLen]; omega) (by omega) (Nat.zero_le _) ?_; intro v2 w2 hown2 hg2 hat2; obtain ⟨B2, lc2, rfl⟩ := own_form hown2; obtain ⟨g9, f92, r0, r1, fr0, fr1, nGR, nRG⟩ := app_keep (R := w.heap.size + 1) HG.out HPW.out (Nat.le_succ _) HRB3.out hg2; have OWN2 := Lib.hid hown2; have G2 := Lib.hid hg2; have AT2 := Lib.hid hat2; clear hown2 hg2 hat2)
          refine (ref_in (st.th.length) _ (by omega) (by omega)).mono ?_
          rintro e w' ⟨rfl, rfl⟩
          go_wp2_with fail
          refine bodyPost_ret (v := vlV (refVl st.th.length)) (by simp [results, Try.results52, go_sem, refVl, r0, r1]) rfl ⟨rfl, ?_⟩
          exact made_end HG.out D2.out.2 HMF.out HR.out OWN2.out G2.out AT2.out (((Only.refl (fun k => k = w.heap.size + 1) _).setCell (p := ⟨w.heap.size + 1, 0, none⟩) (fun _ => rfl) _).setCell (p := ⟨w.heap.size + 1, 1, none⟩) (fun _ => rfl) _)

end Go.Proofs.Ytpllolefmijfdaa
