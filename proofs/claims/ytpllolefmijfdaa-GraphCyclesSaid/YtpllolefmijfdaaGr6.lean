/-
  The contracts of (*Graph).looks, by kind.
-/
import Derived.Test.YtpllolefmijfdaaGr5
import Derived.StillTailTactics
namespace Go.Proofs.Ytpllolefmijfdaa
open Go.RowKit

theorem still_tail_drew {P : Program} {id : Nat} {Q : Exit → Act → World → Prop} {a : Act} {w : World} {l : List Oper} (n : Nat) (hm : P.follows .mixedOrders = true) (hB : Region.lexTailB .any l.toArray n = true)
    (h : wpStill P l.toArray w.drew (fun a' => wpList P l.toArray Q (l.drop n) a' w.drew) (l.take n) a) : (Code.region id l.toArray true).wp P Q a w := wp_region_still_tail n hm hB h
theorem still_drew {P : Program} {id : Nat} {Q : Exit → Act → World → Prop} {a : Act} {w : World} {l : List Oper} (hm : P.follows .mixedOrders = true) (hB : Region.lexB .any l.toArray = true)
    (h : wpStill P l.toArray w.drew (fun a' => Q .normal a' w.drew) l a) : (Code.region id l.toArray true).wp P Q a w := wp_region_still_lit hm hB h

/-- While an operation is done: its cells in block X, its answer's in block R, the graph as it was. -/
structure LkW (w : World) (κ : Nat → Option Cl) (G : Nat) (st : GS) (y : Ly) (X R : Nat) (o : Op20) (u : Vl) (W : World) : Prop where
  gr : GRL W κ G st y
  pu : Pure w W
  op : W.heap[X]? = some (.cells #[.int .i64 o.kind, .int .i64 o.a, .int .i64 o.b, .int .i64 o.c, .int .i64 o.n, .complex .f64 o.x o.y] 38 (0, 0))
  re : W.heap[R]? = some (.cells #[.bool u.r, .complex .f64 u.x u.y] 34 (0, 0))
  rr : w.heap.size ≤ R
theorem LkW.keep {w : World} {κ : Nat → Option Cl} {G : Nat} {st : GS} {y : Ly} {X R : Nat} {o : Op20} {u : Vl} {W W' : World} (h : LkW w κ G st y X R o u W) (k : Pure W W') : LkW w κ G st y X R o u W' := ⟨h.gr.pure k, h.pu.then k, k.blk h.op, k.blk h.re, h.rr⟩
theorem val2 {w : World} {R : Nat} {r : Bool} {x y : Nat} (h : w.heap[R]? = some (.cells #[.bool r, .complex .f64 x y] 34 (0, 0))) :
    w.cell? ⟨R, 0, none⟩ = some (.bool r) ∧ w.cell? ⟨R, 1, none⟩ = some (.complex .f64 x y) ∧ w.frozen? ⟨R, 0, none⟩ = false ∧ w.frozen? ⟨R, 1, none⟩ = false := by
  refine ⟨?_, ?_, frozen_of_row w R _ _ _ h, frozen_of_row w R _ _ _ h⟩ <;> (rw [cell_of_row w R _ _ _ _ h]; rfl)
theorem LkW.out {w : World} {κ : Nat → Option Cl} {G : Nat} {st : GS} {y : Ly} {X R : Nat} {o : Op20} {u : Vl} {W : World} (h : LkW w κ G st y X R o u W) (a b : Value) : Pure w ((W.setCell ⟨R, 0, none⟩ a).setCell ⟨R, 1, none⟩ b) :=
  (h.pu.setCell (p := ⟨R, 0, none⟩) (fun h' => Nat.not_lt.2 h.rr h') a).setCell (p := ⟨R, 1, none⟩) (fun h' => Nat.not_lt.2 h.rr h') b
/-- The world behind the first two lines. -/
theorem LkW.start {w : World} {κ : Nat → Option Cl} {G : Nat} {st : GS} {y : Ly} (h : GRL w κ G st y) (o : Op20) :
    LkW w κ G st y w.heap.size (w.heap.size + 1) o zeroVl ((w.alloc (.cells #[.int .i64 o.kind, .int .i64 o.a, .int .i64 o.b, .int .i64 o.c, .int .i64 o.n, .complex .f64 o.x o.y] 38)).alloc (.cells #[.bool false, .complex .f64 0 0] 34)) := by
  have hp2 : Pure w ((w.alloc (.cells #[.int .i64 o.kind, .int .i64 o.a, .int .i64 o.b, .int .i64 o.c, .int .i64 o.n, .complex .f64 o.x o.y] 38)).alloc (.cells #[.bool false, .complex .f64 0 0] 34)) := ((Only.refl _ _).alloc _).alloc _
  have hop := Pure.blk ((Only.refl (fun _ => False) _).alloc (.cells #[.bool false, .complex .f64 0 0] 34)) (heap_alloc_new w (.cells #[.int .i64 o.kind, .int .i64 o.a, .int .i64 o.b, .int .i64 o.c, .int .i64 o.n, .complex .f64 o.x o.y] 38))
  have hrb := heap_alloc_new (w.alloc (.cells #[.int .i64 o.kind, .int .i64 o.a, .int .i64 o.b, .int .i64 o.c, .int .i64 o.n, .complex .f64 o.x o.y] 38)) (.cells #[.bool false, .complex .f64 0 0] 34)
  rw [show (w.alloc (.cells #[.int .i64 o.kind, .int .i64 o.a, .int .i64 o.b, .int .i64 o.c, .int .i64 o.n, .complex .f64 o.x o.y] 38)).heap.size = w.heap.size + 1 from by simp] at hrb
  exact ⟨h.pure hp2, hp2, hop, hrb, by omega⟩
theorem val_new (w : World) (u : Vl) : (w.alloc (.cells #[.bool u.r, .complex .f64 u.x u.y] 34)).cell? ⟨w.heap.size, 0, none⟩ = some (.bool u.r) ∧ (w.alloc (.cells #[.bool u.r, .complex .f64 u.x u.y] 34)).cell? ⟨w.heap.size, 1, none⟩ = some (.complex .f64 u.x u.y) ∧
    (w.alloc (.cells #[.bool u.r, .complex .f64 u.x u.y] 34)).frozen? ⟨w.heap.size, 0, none⟩ = false ∧ (w.alloc (.cells #[.bool u.r, .complex .f64 u.x u.y] 34)).frozen? ⟨w.heap.size, 1, none⟩ = false := val2 (heap_alloc_new w _)


set_option maxRecDepth 100000 in
set_option maxHeartbeats 4000000 in
theorem looks_kind {w : World} {κ : Nat → Option Cl} {G : Nat} {st : GS} {y : Ly} (h : GRL w κ G st y) (a c n : Int) (x z : Nat) (l : List Vl) (i j : Nat) (t : Th) (hl : st.loc = some l) (hu : l[j]? = some (refVl i)) (ht : st.th[i]? = some t) (hlen : st.th.length ≤ 1000000) (h0 : -9007199254740992 ≤ t.kind) (h1 : t.kind ≤ 9007199254740992) :
    Calls Try.prog 56 #[.pointer (some ⟨G, 0, none⟩), .agg #[.int .i64 11, .int .i64 a, .int .i64 ((j : Nat) : Int), .int .i64 c, .int .i64 n, .complex .f64 x z], .slice (some ⟨y.lb, 0, none⟩) l.length l.length] w fun e w' => e = .returned (.tuple #[vlV (numVl t.kind), .int .i64 0]) ∧ Pure w w' := by
  obtain ⟨hlb, hle, -⟩ := h.local hl
  obtain ⟨p, hp, hT⟩ := h.thOf ht
  have hlt := (List.getElem?_eq_some_iff.1 hu).1
  have hK : LkW w κ G st y w.heap.size (w.heap.size + 1) ⟨11, a, (j : Nat), c, n, x, z⟩ zeroVl ((w.alloc (.cells #[.int .i64 (11), .int .i64 a, .int .i64 ((j : Nat) : Int), .int .i64 c, .int .i64 n, .complex .f64 x z] 38)).alloc (.cells #[.bool false, .complex .f64 0 0] 34)) := LkW.start h ⟨11, a, (j : Nat), c, n, x, z⟩
  have hs2 : ((w.alloc (.cells #[.int .i64 (11), .int .i64 a, .int .i64 ((j : Nat) : Int), .int .i64 c, .int .i64 n, .complex .f64 x z] 38)).alloc (.cells #[.bool false, .complex .f64 0 0] 34)).heap.size = w.heap.size + 2 := by simp
  have K2 := Lib.hid hK
  obtain ⟨o0, o1, o2, o3, o4, o5⟩ := op6 hK.op
  obtain ⟨e0, e1, -, -⟩ := vcell (T := 34) hlb hu
  have e0' := Pure.keep hK.pu e0
  have e1' := Pure.keep hK.pu e1
  obtain ⟨f0, f1, f2, f3⟩ := val_new ((w.alloc (.cells #[.int .i64 (11), .int .i64 a, .int .i64 ((j : Nat) : Int), .int .i64 c, .int .i64 n, .complex .f64 x z] 38)).alloc (.cells #[.bool false, .complex .f64 0 0] 34)) (refVl i)
  rw [hs2] at f0 f1 f2 f3
  have K3 := Lib.hid (hK.keep ((Only.refl _ _).alloc (.cells #[.bool (refVl i).r, .complex .f64 (refVl i).x (refVl i).y] 34)))
  have S2 := Lib.hid hs2
  have HT := Lib.hid hT
  have HP := Lib.hid hp
  clear hK hs2 hT hp hu hl ht hlb e0 e1 h
  go_enter Try.func56, Try.ntmps56
  go_wp2_with fail
  refine (thing_any K3.out.gr i p HP.out hlen).mono ?_
  rintro e w4 ⟨rfl, hp4⟩
  have K4 := Lib.hid (K3.out.keep hp4)
  have HT4 := Lib.hid (HT.out.only (K4.out.pu) (fun _ _ f => f) (fun _ _ f => f))
  clear hp4 o0 o1 o2 o3 o4 o5 f0 f1 f2 f3 e0' e1'
  obtain ⟨o0, o1, o2, o3, o4, o5⟩ := op6 K4.out.op
  obtain ⟨A, cr, q, t0, t1, t2, t3, t4, -, t5⟩ := HT4.out.cells
  obtain ⟨r0, r1, r2, r3⟩ := val2 K4.out.re
  go_wp2_with fail
  refine (whole_val t.kind _ h0 h1).mono ?_
  rintro e w5 ⟨rfl, hp5⟩
  have K5 := Lib.hid (K4.out.keep hp5)
  clear hp5 r0 r1 r2 r3 o0 o1 o2 o3 o4 o5 t0 t1 t2 t3 t4 t5
  obtain ⟨r0, r1, r2, r3⟩ := val2 K5.out.re
  go_wp2_with fail
  exact bodyPost_ret (v := .tuple #[vlV (numVl t.kind), .int .i64 0]) (by simp [results, Try.results56, go_sem, r0, r1]) rfl ⟨rfl, K5.out.out _ _⟩


set_option maxRecDepth 100000 in
set_option maxHeartbeats 4000000 in
theorem looks_len {w : World} {κ : Nat → Option Cl} {G : Nat} {st : GS} {y : Ly} (h : GRL w κ G st y) (a c n : Int) (x z : Nat) (l : List Vl) (i j : Nat) (t : Th) (hl : st.loc = some l) (hu : l[j]? = some (refVl i)) (ht : st.th[i]? = some t) (hlen : st.th.length ≤ 1000000) (h0 : -9007199254740992 ≤ t.n) (h1 : t.n ≤ 9007199254740992) (ha : t.a = true) :
    Calls Try.prog 56 #[.pointer (some ⟨G, 0, none⟩), .agg #[.int .i64 10, .int .i64 a, .int .i64 ((j : Nat) : Int), .int .i64 c, .int .i64 n, .complex .f64 x z], .slice (some ⟨y.lb, 0, none⟩) l.length l.length] w fun e w' => e = .returned (.tuple #[vlV (numVl t.n), .int .i64 0]) ∧ Pure w w' := by
  obtain ⟨hlb, hle, -⟩ := h.local hl
  obtain ⟨p, hp, hT⟩ := h.thOf ht
  have hlt := (List.getElem?_eq_some_iff.1 hu).1
  have hK : LkW w κ G st y w.heap.size (w.heap.size + 1) ⟨10, a, (j : Nat), c, n, x, z⟩ zeroVl ((w.alloc (.cells #[.int .i64 (10), .int .i64 a, .int .i64 ((j : Nat) : Int), .int .i64 c, .int .i64 n, .complex .f64 x z] 38)).alloc (.cells #[.bool false, .complex .f64 0 0] 34)) := LkW.start h ⟨10, a, (j : Nat), c, n, x, z⟩
  have hs2 : ((w.alloc (.cells #[.int .i64 (10), .int .i64 a, .int .i64 ((j : Nat) : Int), .int .i64 c, .int .i64 n, .complex .f64 x z] 38)).alloc (.cells #[.bool false, .complex .f64 0 0] 34)).heap.size = w.heap.size + 2 := by simp
  have K2 := Lib.hid hK
  obtain ⟨o0, o1, o2, o3, o4, o5⟩ := op6 hK.op
  obtain ⟨e0, e1, -, -⟩ := vcell (T := 34) hlb hu
  have e0' := Pure.keep hK.pu e0
  have e1' := Pure.keep hK.pu e1
  obtain ⟨f0, f1, f2, f3⟩ := val_new ((w.alloc (.cells #[.int .i64 (10), .int .i64 a, .int .i64 ((j : Nat) : Int), .int .i64 c, .int .i64 n, .complex .f64 x z] 38)).alloc (.cells #[.bool false, .complex .f64 0 0] 34)) (refVl i)
  rw [hs2] at f0 f1 f2 f3
  have K3 := Lib.hid (hK.keep ((Only.refl _ _).alloc (.cells #[.bool (refVl i).r, .complex .f64 (refVl i).x (refVl i).y] 34)))
  have S2 := Lib.hid hs2
  have HT := Lib.hid hT
  have HP := Lib.hid hp
  clear hK hs2 hT hp hu hl ht hlb e0 e1 h
  go_enter Try.func56, Try.ntmps56
  go_wp2_with fail
  refine (thing_any K3.out.gr i p HP.out hlen).mono ?_
  rintro e w4 ⟨rfl, hp4⟩
  have K4 := Lib.hid (K3.out.keep hp4)
  have HT4 := Lib.hid (HT.out.only (K4.out.pu) (fun _ _ f => f) (fun _ _ f => f))
  clear hp4 o0 o1 o2 o3 o4 o5 f0 f1 f2 f3 e0' e1'
  obtain ⟨o0, o1, o2, o3, o4, o5⟩ := op6 K4.out.op
  obtain ⟨A, cr, q, t0, t1, t2, t3, t4, -, t5⟩ := HT4.out.cells
  obtain ⟨r0, r1, r2, r3⟩ := val2 K4.out.re
  go_wp2_with fail
  refine (whole_val t.n _ h0 h1).mono ?_
  rintro e w5 ⟨rfl, hp5⟩
  have K5 := Lib.hid (K4.out.keep hp5)
  clear hp5 r0 r1 r2 r3 o0 o1 o2 o3 o4 o5 t0 t1 t2 t3 t4 t5
  obtain ⟨r0, r1, r2, r3⟩ := val2 K5.out.re
  go_wp2_with fail
  exact bodyPost_ret (v := .tuple #[vlV (numVl t.n), .int .i64 0]) (by simp [results, Try.results56, go_sem, r0, r1]) rfl ⟨rfl, K5.out.out _ _⟩


set_option maxRecDepth 100000 in
set_option maxHeartbeats 4000000 in
theorem looks_get {w : World} {κ : Nat → Option Cl} {G : Nat} {st : GS} {y : Ly} (h : GRL w κ G st y) (a c : Int) (x z : Nat) (l : List Vl) (i j : Nat) (t : Th) (hl : st.loc = some l) (hu : l[j]? = some (refVl i)) (ht : st.th[i]? = some t) (hlen : st.th.length ≤ 1000000) (ha : t.a = true) (m : Nat) (hm : m < t.l.length) (v : Nat × Nat) (hv : t.l[m]? = some v) (b : Bool) (hb : refB t m = some b) (hrl : t.rs.length ≤ 1000000) :
    Calls Try.prog 56 #[.pointer (some ⟨G, 0, none⟩), .agg #[.int .i64 5, .int .i64 a, .int .i64 ((j : Nat) : Int), .int .i64 c, .int .i64 ((m : Nat) : Int), .complex .f64 x z], .slice (some ⟨y.lb, 0, none⟩) l.length l.length] w fun e w' => e = .returned (.tuple #[vlV ⟨b, v.1, v.2⟩, .int .i64 0]) ∧ Pure w w' := by
  obtain ⟨hlb, hle, -⟩ := h.local hl
  obtain ⟨p, hp, hT⟩ := h.thOf ht
  have hlt := (List.getElem?_eq_some_iff.1 hu).1
  have hK : LkW w κ G st y w.heap.size (w.heap.size + 1) ⟨5, a, (j : Nat), c, ((m : Nat) : Int), x, z⟩ zeroVl ((w.alloc (.cells #[.int .i64 (5), .int .i64 a, .int .i64 ((j : Nat) : Int), .int .i64 c, .int .i64 ((m : Nat) : Int), .complex .f64 x z] 38)).alloc (.cells #[.bool false, .complex .f64 0 0] 34)) := LkW.start h ⟨5, a, (j : Nat), c, ((m : Nat) : Int), x, z⟩
  have hs2 : ((w.alloc (.cells #[.int .i64 (5), .int .i64 a, .int .i64 ((j : Nat) : Int), .int .i64 c, .int .i64 ((m : Nat) : Int), .complex .f64 x z] 38)).alloc (.cells #[.bool false, .complex .f64 0 0] 34)).heap.size = w.heap.size + 2 := by simp
  have K2 := Lib.hid hK
  obtain ⟨o0, o1, o2, o3, o4, o5⟩ := op6 hK.op
  obtain ⟨e0, e1, -, -⟩ := vcell (T := 34) hlb hu
  have e0' := Pure.keep hK.pu e0
  have e1' := Pure.keep hK.pu e1
  obtain ⟨f0, f1, f2, f3⟩ := val_new ((w.alloc (.cells #[.int .i64 (5), .int .i64 a, .int .i64 ((j : Nat) : Int), .int .i64 c, .int .i64 ((m : Nat) : Int), .complex .f64 x z] 38)).alloc (.cells #[.bool false, .complex .f64 0 0] 34)) (refVl i)
  rw [hs2] at f0 f1 f2 f3
  have K3 := Lib.hid (hK.keep ((Only.refl _ _).alloc (.cells #[.bool (refVl i).r, .complex .f64 (refVl i).x (refVl i).y] 34)))
  have S2 := Lib.hid hs2
  have HT := Lib.hid hT
  have HP := Lib.hid hp
  clear hK hs2 hT hp hu hl ht hlb e0 e1 h
  go_enter Try.func56, Try.ntmps56
  go_wp2_with fail
  refine (thing_any K3.out.gr i p HP.out hlen).mono ?_
  rintro e w4 ⟨rfl, hp4⟩
  have K4 := Lib.hid (K3.out.keep hp4)
  have HT4 := Lib.hid (HT.out.only (K4.out.pu) (fun _ _ f => f) (fun _ _ f => f))
  clear hp4 o0 o1 o2 o3 o4 o5 f0 f1 f2 f3 e0' e1'
  obtain ⟨o0, o1, o2, o3, o4, o5⟩ := op6 K4.out.op
  obtain ⟨A, cr, q, t0, t1, t2, t3, t4, -, t5⟩ := HT4.out.cells
  obtain ⟨r0, r1, r2, r3⟩ := val2 K4.out.re
  go_wp2_with fail
  have hpl := place_ok HT4.out m hm
  rw [ha] at hpl
  refine hpl.mono ?_
  rintro e w5 ⟨rfl, rfl⟩
  clear hpl
  have fq : w4.cell? ⟨q, m, none⟩ = some (.complex .f64 v.1 v.2) := by
    rw [cell_of_row _ _ _ _ _ _ t5, List.getElem?_toArray, fcs_get _ _ _ hv]
  obtain ⟨-, -, -, -, -, -, -, -, -, hml⟩ := HT4.out
  have hm64 : (m : Int) < 9223372036854775808 := by omega
  clear hv t5
  have HT5 := Lib.hid (HT4.out.only ((Only.refl (fun _ => False) w4).drewN 1) (fun _ _ f => f) (fun _ _ f => f))
  go_wp2_with fail
  refine still_tail_drew 13 (by kernel_rfl) (by kernel_rfl) ?_
  simp only [List.take_succ_cons, List.take_zero, List.drop_succ_cons, List.drop_zero]
  repeat (first | still_step | still_call ((ref_any HT5.out m b hb hrl).mono fun _ _ h => ⟨h.1, h.2.symm⟩))
  try refine wpStill_nil ?_
  change wpList _ _ _ _ _ w4.drew
  have K5 := Lib.hid (K4.out.keep ((Only.refl (fun _ => False) w4).drewN 1))
  go_wp2_with fail
  exact bodyPost_ret (v := .tuple #[vlV ⟨b, v.1, v.2⟩, .int .i64 0]) (by simp [results, Try.results56, go_sem, r0, r1]) rfl ⟨rfl, K5.out.out _ _⟩


/-- The field's word is written. -/
theorem GRL.fieldSet {w : World} {κ : Nat → Option Cl} {G i p q m cr : Nat} {st : GS} {y : Ly} {t : Th} {A : Option Addr} {v : Nat × Nat} (h : GRL w κ G st y) (ht : st.th[i]? = some t) (hp : y.ps[i]? = some p)
    (hb : w.heap[p]? = some (.cells #[.int .i64 t.kind, .int .i64 t.n, .bool t.a, .slice A t.rs.length cr, .slice (some ⟨q, 0, none⟩) t.l.length t.l.length] 70 (0, 0))) (hq : w.heap[q]? = some (.cells (fcs t.l).toArray 32 (0, 0))) :
    GRL (w.setCell ⟨q, m, none⟩ (.complex .f64 v.1 v.2)) κ G { st with th := st.th.set i { t with l := t.l.set m v } } y ∧ κ q ≠ none := by
  have ho : Only (fun k => k = q) w (w.setCell ⟨q, m, none⟩ (.complex .f64 v.1 v.2)) := (Only.refl (fun k => k = q) w).setCell (p := ⟨q, m, none⟩) (fun _ => rfl) _
  refine ⟨h.setField (l := t.l.set m v) ht hp hb (by simp) ho (by simp [World.setCell, Array.getElem?_modify, hq, ← fcs_set]), ?_⟩
  obtain ⟨p', hp', A', cr', q', b1, b2, b3, b4, -⟩ := h.ths i t ht
  obtain rfl : p' = p := by rw [hp] at hp'; injection hp' with e; exact e.symm
  rw [hb] at b1
  obtain rfl : q = q' := by
    injection b1 with b1
    injection b1 with b1
    simp at b1
    exact b1.2
  rw [b4]; simp

set_option maxRecDepth 100000 in
set_option maxHeartbeats 4000000 in
theorem looks_store {w : World} {κ : Nat → Option Cl} {G : Nat} {st : GS} {y : Ly} (h : GRL w κ G st y) (c : Int) (x z : Nat) (l : List Vl) (i j jb m : Nat) (t : Th) (vx vy : Nat) (hl : st.loc = some l) (hu : l[j]? = some (refVl i)) (hub : l[jb]? = some ⟨true, vx, vy⟩) (ht : st.th[i]? = some t) (hlen : st.th.length ≤ 1000000)
    (ha : t.a = false) (hm : m < t.l.length) (hb : refB t m = some true) (hrl : t.rs.length ≤ 1000000) :
    Calls Try.prog 56 #[.pointer (some ⟨G, 0, none⟩), .agg #[.int .i64 4, .int .i64 ((j : Nat) : Int), .int .i64 ((jb : Nat) : Int), .int .i64 c, .int .i64 ((m : Nat) : Int), .complex .f64 x z], .slice (some ⟨y.lb, 0, none⟩) l.length l.length] w fun e w' => e = .returned (.tuple #[vlV zeroVl, .int .i64 0]) ∧
      GNew w κ G { st with th := st.th.set i { t with l := t.l.set m (vx, vy) } } y.lb w' := by
  obtain ⟨hlb, hle, -⟩ := h.local hl
  obtain ⟨p, hp, hT⟩ := h.thOf ht
  have hlt := (List.getElem?_eq_some_iff.1 hu).1
  have hltb := (List.getElem?_eq_some_iff.1 hub).1
  have hK : LkW w κ G st y w.heap.size (w.heap.size + 1) ⟨4, (j : Nat), (jb : Nat), c, (m : Nat), x, z⟩ zeroVl ((w.alloc (.cells #[.int .i64 (4), .int .i64 ((j : Nat) : Int), .int .i64 ((jb : Nat) : Int), .int .i64 c, .int .i64 ((m : Nat) : Int), .complex .f64 x z] 38)).alloc (.cells #[.bool false, .complex .f64 0 0] 34)) := LkW.start h ⟨4, (j : Nat), (jb : Nat), c, (m : Nat), x, z⟩
  have hs2 : ((w.alloc (.cells #[.int .i64 (4), .int .i64 ((j : Nat) : Int), .int .i64 ((jb : Nat) : Int), .int .i64 c, .int .i64 ((m : Nat) : Int), .complex .f64 x z] 38)).alloc (.cells #[.bool false, .complex .f64 0 0] 34)).heap.size = w.heap.size + 2 := by simp
  obtain ⟨o0, o1, o2, o3, o4, o5⟩ := op6 hK.op
  obtain ⟨e0, e1, -, -⟩ := vcell (T := 34) hlb hub
  have e0' := Pure.keep hK.pu e0
  have e1' := Pure.keep hK.pu e1
  obtain ⟨f0, f1, f2, f3⟩ := val_new ((w.alloc (.cells #[.int .i64 (4), .int .i64 ((j : Nat) : Int), .int .i64 ((jb : Nat) : Int), .int .i64 c, .int .i64 ((m : Nat) : Int), .complex .f64 x z] 38)).alloc (.cells #[.bool false, .complex .f64 0 0] 34)) ⟨true, vx, vy⟩
  rw [hs2] at f0 f1 f2 f3
  have hK3 := hK.keep ((Only.refl _ _).alloc (.cells #[.bool true, .complex .f64 vx vy] 34))
  obtain ⟨p0, p1, p2, p3, p4, p5⟩ := op6 hK3.op
  obtain ⟨d0, d1, -, -⟩ := vcell (T := 34) hlb hu
  have d0' := Pure.keep hK3.pu d0
  have d1' := Pure.keep hK3.pu d1
  have K3 := Lib.hid (hK.keep ((Only.refl _ _).alloc (.cells #[.bool true, .complex .f64 (floatOfInt .f64 ((i : Int) + 1)) 4607182418800017408] 34)))
  have S2 := Lib.hid hs2
  have HT := Lib.hid hT
  have HP := Lib.hid hp
  have HTT := Lib.hid ht
  have HLB := Lib.hid hlb
  have HU := Lib.hid hub
  have HDOM := Lib.hid h.dom
  clear hK hK3 hs2 hT hp hu hub hl ht hlb e0 e1 d0 d1 h
  go_enter Try.func56, Try.ntmps56
  unfold refVl at *
  go_wp2_with fail
  refine (thing_any K3.out.gr i p HP.out hlen).mono ?_
  rintro e w4 ⟨rfl, hp4⟩
  have K4 := Lib.hid (K3.out.keep hp4)
  have HT4 := Lib.hid (HT.out.only (K4.out.pu) (fun _ _ f => f) (fun _ _ f => f))
  have HLB4 := Lib.hid (K4.out.pu.blk HLB.out)
  clear hp4 o0 o1 o2 o3 o4 o5 f0 f1 f2 f3 e0' e1' p0 p1 p2 p3 p4 p5 d0' d1'
  obtain ⟨o0, o1, o2, o3, o4, o5⟩ := op6 K4.out.op
  obtain ⟨A, cr, q, b1, b2, b3, b4, b5, b6, b7⟩ := HT4.out
  have t2 : w4.cell? ⟨p, 2, none⟩ = some (.bool t.a) := by rw [cell_of_row w4 p _ _ _ _ b1]; rfl
  have t4 : w4.cell? ⟨p, 4, none⟩ = some (.slice (some ⟨q, 0, none⟩) t.l.length t.l.length) := by rw [cell_of_row w4 p _ _ _ _ b1]; rfl
  have q0 := frozen_of_row w4 q m _ _ b3
  have q1 : w4.cell? ⟨q, m, none⟩ = some (.complex .f64 (t.l[m]).1 (t.l[m]).2) := by rw [cell_of_row _ _ _ _ _ _ b3, List.getElem?_toArray, fcs_get _ _ _ (List.getElem?_eq_getElem hm)]
  have hqd := K4.out.gr.dom q (by rw [b4]; simp)
  have hq2 : q < w.heap.size := HDOM.out q (by rw [b4]; simp)
  have hqa : ¬ q = w.heap.size + 1 := by omega
  have hqb : ¬ w.heap.size + 1 = q := by omega
  have hm64 : (m : Int) < 9223372036854775808 := by omega
  have HFS := Lib.hid (fun (W : World) (hp : Pure w4 W) => (K4.out.keep hp).gr.fieldSet (v := (vx, vy)) (m := m) HTT.out HP.out (hp.blk b1) (hp.blk b3))
  clear b1 b2 b3 b4 b5 b6 b7 hqd
  obtain ⟨r0, r1, r2, r3⟩ := val2 K4.out.re
  obtain ⟨e0, e1, -, -⟩ := vcell (T := 34) HLB4.out HU.out
  go_wp2_with fail
  have hpl := place_ok HT4.out m hm
  rw [ha] at hpl
  refine hpl.mono ?_
  rintro e w5 ⟨rfl, rfl⟩
  clear hpl
  have HT5 := Lib.hid (HT4.out.only ((Only.refl (fun _ => False) w4).drewN 1) (fun _ _ f => f) (fun _ _ f => f))
  generalize t.l[m] = told at *
  go_wp2_with fail
  refine still_drew (by kernel_rfl) (by kernel_rfl) ?_
  repeat (first | still_step | still_call ((ref_any HT5.out m true hb hrl).mono fun _ _ h => ⟨h.1, h.2.symm⟩))
  refine wpStill_nil ?_
  go_wp2_with fail
  refine still_tail_drew 13 (by kernel_rfl) (by kernel_rfl) ?_
  simp only [List.take_succ_cons, List.take_zero, List.drop_succ_cons, List.drop_zero]
  repeat (first | still_step)
  try refine wpStill_nil ?_
  change wpList _ _ _ _ _ w4.drew.drew
  go_wp2_with fail
  refine bodyPost_ret (v := .tuple #[vlV zeroVl, .int .i64 0]) (by simp [results, Try.results56, go_sem, zeroVl, r0, r1]) rfl ⟨rfl, ?_⟩
  obtain ⟨hg, hq⟩ := HFS.out w4 (Only.refl _ _)
  have ho := ((((Only.refl (fun k => k = w.heap.size + 1) (w4.setCell ⟨q, m, none⟩ (.complex .f64 vx vy))).setCell (p := ⟨w.heap.size + 1, 0, none⟩) (fun _ => rfl) (.bool false)).setCell (p := ⟨w.heap.size + 1, 1, none⟩) (fun _ => rfl) (.complex .f64 0 0)).drewN 1).drewN 1
  have hq1 : Only (fun k => k = q) w4 (w4.setCell ⟨q, m, none⟩ (.complex .f64 vx vy)) := (Only.refl (fun k => k = q) w4).setCell (p := ⟨q, m, none⟩) (fun _ => rfl) _
  refine ⟨κ, y, hg.only ho (fun k hk e => by subst e; have := HDOM.out _ hk; omega), rfl, ?_, fun _ _ => rfl⟩
  exact ((K4.out.pu.mono (fun _ _ f => f.elim)).trans hq1 (fun k _ e => by subst e; exact hq)).trans ho (fun k hk e => absurd e (by omega))

end Go.Proofs.Ytpllolefmijfdaa
