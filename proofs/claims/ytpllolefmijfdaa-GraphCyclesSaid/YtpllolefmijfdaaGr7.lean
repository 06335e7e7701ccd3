/-
  The contracts of (*Graph).does, by kind.
-/
import Derived.Test.YtpllolefmijfdaaGr6
import Derived.Laws.OwnMore
namespace Go.Proofs.Ytpllolefmijfdaa
open Go.RowKit

theorem GNew.wrap {w W2 W' W'' : World} {κ : Nat → Option Cl} {G lb R : Nat} {st : GS} (hd : ∀ k, κ k ≠ none → k < w.heap.size) (hp : Pure w W2) (hg : GNew W2 κ G st lb W') (hR : w.heap.size ≤ R) (hR2 : R < W2.heap.size) (h : Only (fun k => k = R) W' W'') : GNew w κ G st lb W'' := by
  obtain ⟨κ', y', h1, h2, h3, h4⟩ := hg
  have hsz := hp.size
  have hκ : κ' R = none := by
    rw [h4 R hR2]
    exact Classical.byContradiction fun hn => by have := hd R hn; omega
  refine ⟨κ', y', h1.only h (fun k hk e => hk (e ▸ hκ)), h2, ?_, fun q hq => h4 q (by omega)⟩
  exact ((hp.mono (fun _ _ f => f.elim)).trans h3 (fun k _ e => e)).trans h (fun k hk e => absurd e (by omega))
/-- What is not of the graph stays. -/
theorem GNew.val {w W' : World} {κ : Nat → Option Cl} {G lb R : Nat} {st : GS} {o : Obj} (hg : GNew w κ G st lb W') (hb : w.heap[R]? = some o) (hκ : κ R = none) : W'.heap[R]? = some o := by
  obtain ⟨κ', y', h1, h2, h3, h4⟩ := hg
  exact h3.blk hb (fun h => h hκ)
theorem GNew.of {w W' : World} {κ : Nat → Option Cl} {G : Nat} {st : GS} {y : Ly} (h : GRL w κ G st y) (hp : Pure w W') : GNew w κ G st y.lb W' := ⟨κ, y, h.pure hp, rfl, hp.mono (fun _ _ f => f.elim), fun _ _ => rfl⟩
theorem LkW.nokey {w : World} {κ : Nat → Option Cl} {G : Nat} {st st' : GS} {y : Ly} {X R : Nat} {o : Op20} {u : Vl} {W : World} (h : LkW w κ G st y X R o u W) (h' : GRL w κ G st' y) : κ R = none :=
  Classical.byContradiction fun hn => by have := h'.dom R hn; have := h.rr; omega
theorem LkW.lt {w : World} {κ : Nat → Option Cl} {G : Nat} {st : GS} {y : Ly} {X R : Nat} {o : Op20} {u : Vl} {W : World} (h : LkW w κ G st y X R o u W) : R < W.heap.size := (Array.getElem?_eq_some_iff.1 h.re).1
theorem LkW.opv {w : World} {κ : Nat → Option Cl} {G : Nat} {st : GS} {y : Ly} {X R : Nat} {o : Op20} {u : Vl} {W : World} (h : LkW w κ G st y X R o u W) (hX : κ X = none) {st' : GS} {lb : Nat} {W' : World} (hg : GNew W κ G st' lb W') : W'.heap[X]? = some (.cells #[.int .i64 o.kind, .int .i64 o.a, .int .i64 o.b, .int .i64 o.c, .int .i64 o.n, .complex .f64 o.x o.y] 38 (0, 0)) := hg.val h.op hX
theorem set2 (W : World) (R : Nat) (a b : Value) : Only (fun k => k = R) W ((W.setCell ⟨R, 0, none⟩ a).setCell ⟨R, 1, none⟩ b) := ((Only.refl (fun k => k = R) W).setCell (p := ⟨R, 0, none⟩) (fun _ => rfl) a).setCell (p := ⟨R, 1, none⟩) (fun _ => rfl) b


set_option maxRecDepth 100000 in
set_option maxHeartbeats 4000000 in
theorem does_1 {w : World} {κ : Nat → Option Cl} {G : Nat} {st : GS} {y : Ly} (h : GRL w κ G st y) (a b c n : Int) (x z : Nat) (l : List Vl) (_hl : st.loc = some l) (v : Vl) (st1 : GS) (hm : ∀ W, GRL W κ G st y → Calls Try.prog 52 #[.pointer (some ⟨G, 0, none⟩), .agg #[.int .i64 1, .int .i64 a, .int .i64 b, .int .i64 c, .int .i64 n, .complex .f64 x z]] W fun e w' => e = .returned (vlV v) ∧ GNew W κ G st1 y.lb w') :
    Calls Try.prog 34 #[.pointer (some ⟨G, 0, none⟩), .agg #[.int .i64 1, .int .i64 a, .int .i64 b, .int .i64 c, .int .i64 n, .complex .f64 x z], .slice (some ⟨y.lb, 0, none⟩) l.length l.length] w fun e w' => e = .returned (.tuple #[vlV v, .int .i64 0]) ∧ GNew w κ G st1 y.lb w' := by
  have hK : LkW w κ G st y w.heap.size (w.heap.size + 1) ⟨1, a, b, c, n, x, z⟩ zeroVl ((w.alloc (.cells #[.int .i64 1, .int .i64 a, .int .i64 b, .int .i64 c, .int .i64 n, .complex .f64 x z] 38)).alloc (.cells #[.bool false, .complex .f64 0 0] 34)) := LkW.start h ⟨1, a, b, c, n, x, z⟩
  have hs2 : ((w.alloc (.cells #[.int .i64 1, .int .i64 a, .int .i64 b, .int .i64 c, .int .i64 n, .complex .f64 x z] 38)).alloc (.cells #[.bool false, .complex .f64 0 0] 34)).heap.size = w.heap.size + 2 := by simp
  have K2 := Lib.hid hK
  have S2 := Lib.hid hs2
  obtain ⟨o0, o1, o2, o3, o4, o5⟩ := op6 hK.op
  obtain ⟨r0, r1, r2, r3⟩ := val2 hK.re
  have HN := Lib.hid (hK.nokey h)
  have HDOM := Lib.hid h.dom
  have HM := Lib.hid hm
  have HH := Lib.hid h
  clear hK hs2 _hl hm h
  go_enter Try.func34, Try.ntmps34
  go_wp2_with fail
  refine (HM.out _ K2.out.gr).mono ?_
  rintro e w4 ⟨rfl, hg⟩
  obtain ⟨r0, r1, r2, r3⟩ := val2 (hg.val K2.out.re HN.out)
  have HG := Lib.hid hg
  clear hg
  go_wp2_with fail
  exact bodyPost_ret (v := .tuple #[vlV v, .int .i64 0]) (by simp [results, Try.results34, go_sem, r0, r1]) rfl ⟨rfl, GNew.wrap HDOM.out K2.out.pu HG.out K2.out.rr K2.out.lt (set2 _ _ _ _)⟩


set_option maxRecDepth 100000 in
set_option maxHeartbeats 4000000 in
theorem does_2 {w : World} {κ : Nat → Option Cl} {G : Nat} {st : GS} {y : Ly} (h : GRL w κ G st y) (a b c n : Int) (x z : Nat) (l : List Vl) (_hl : st.loc = some l) (v : Vl) (st1 : GS) (hm : ∀ W, GRL W κ G st y → Calls Try.prog 52 #[.pointer (some ⟨G, 0, none⟩), .agg #[.int .i64 2, .int .i64 a, .int .i64 b, .int .i64 c, .int .i64 n, .complex .f64 x z]] W fun e w' => e = .returned (vlV v) ∧ GNew W κ G st1 y.lb w') :
    Calls Try.prog 34 #[.pointer (some ⟨G, 0, none⟩), .agg #[.int .i64 2, .int .i64 a, .int .i64 b, .int .i64 c, .int .i64 n, .complex .f64 x z], .slice (some ⟨y.lb, 0, none⟩) l.length l.length] w fun e w' => e = .returned (.tuple #[vlV v, .int .i64 0]) ∧ GNew w κ G st1 y.lb w' := by
  have hK : LkW w κ G st y w.heap.size (w.heap.size + 1) ⟨2, a, b, c, n, x, z⟩ zeroVl ((w.alloc (.cells #[.int .i64 2, .int .i64 a, .int .i64 b, .int .i64 c, .int .i64 n, .complex .f64 x z] 38)).alloc (.cells #[.bool false, .complex .f64 0 0] 34)) := LkW.start h ⟨2, a, b, c, n, x, z⟩
  have hs2 : ((w.alloc (.cells #[.int .i64 2, .int .i64 a, .int .i64 b, .int .i64 c, .int .i64 n, .complex .f64 x z] 38)).alloc (.cells #[.bool false, .complex .f64 0 0] 34)).heap.size = w.heap.size + 2 := by simp
  have K2 := Lib.hid hK
  have S2 := Lib.hid hs2
  obtain ⟨o0, o1, o2, o3, o4, o5⟩ := op6 hK.op
  obtain ⟨r0, r1, r2, r3⟩ := val2 hK.re
  have HN := Lib.hid (hK.nokey h)
  have HDOM := Lib.hid h.dom
  have HM := Lib.hid hm
  have HH := Lib.hid h
  clear hK hs2 _hl hm h
  go_enter Try.func34, Try.ntmps34
  go_wp2_with fail
  refine (HM.out _ K2.out.gr).mono ?_
  rintro e w4 ⟨rfl, hg⟩
  obtain ⟨r0, r1, r2, r3⟩ := val2 (hg.val K2.out.re HN.out)
  have HG := Lib.hid hg
  clear hg
  go_wp2_with fail
  exact bodyPost_ret (v := .tuple #[vlV v, .int .i64 0]) (by simp [results, Try.results34, go_sem, r0, r1]) rfl ⟨rfl, GNew.wrap HDOM.out K2.out.pu HG.out K2.out.rr K2.out.lt (set2 _ _ _ _)⟩


set_option maxRecDepth 100000 in
set_option maxHeartbeats 4000000 in
theorem does_clear {w : World} {κ : Nat → Option Cl} {G : Nat} {st : GS} {y : Ly} (h : GRL w κ G st y) (a b c n : Int) (x z : Nat) (l : List Vl) (_hl : st.loc = some l) :
    Calls Try.prog 34 #[.pointer (some ⟨G, 0, none⟩), .agg #[.int .i64 13, .int .i64 a, .int .i64 b, .int .i64 c, .int .i64 n, .complex .f64 x z], .slice (some ⟨y.lb, 0, none⟩) l.length l.length] w fun e w' => e = .returned (.tuple #[vlV noneVl, .int .i64 0]) ∧ Pure w w' := by
  have hK : LkW w κ G st y w.heap.size (w.heap.size + 1) ⟨13, a, b, c, n, x, z⟩ zeroVl ((w.alloc (.cells #[.int .i64 13, .int .i64 a, .int .i64 b, .int .i64 c, .int .i64 n, .complex .f64 x z] 38)).alloc (.cells #[.bool false, .complex .f64 0 0] 34)) := LkW.start h ⟨13, a, b, c, n, x, z⟩
  have hs2 : ((w.alloc (.cells #[.int .i64 13, .int .i64 a, .int .i64 b, .int .i64 c, .int .i64 n, .complex .f64 x z] 38)).alloc (.cells #[.bool false, .complex .f64 0 0] 34)).heap.size = w.heap.size + 2 := by simp
  have K2 := Lib.hid hK
  have S2 := Lib.hid hs2
  obtain ⟨o0, o1, o2, o3, o4, o5⟩ := op6 hK.op
  obtain ⟨r0, r1, r2, r3⟩ := val2 hK.re
  have HN := Lib.hid (hK.nokey h)
  have HDOM := Lib.hid h.dom
  clear _hl h
  go_enter Try.func34, Try.ntmps34
  go_wp2_with fail
  refine (none_val _).mono ?_
  rintro e w4 ⟨rfl, hp⟩
  have K4 := Lib.hid (K2.out.keep hp)
  obtain ⟨r0, r1, r2, r3⟩ := val2 K4.out.re
  clear hp hK
  go_wp2_with fail
  exact bodyPost_ret (v := .tuple #[vlV noneVl, .int .i64 0]) (by simp [results, Try.results34, go_sem, r0, r1]) rfl ⟨rfl, K4.out.out _ _⟩


set_option maxRecDepth 100000 in
set_option maxHeartbeats 4000000 in
theorem does_leave {w : World} {κ : Nat → Option Cl} {G : Nat} {st : GS} {y : Ly} (h : GRL w κ G st y) (a b c n : Int) (x z : Nat) (l : List Vl) (_hl : st.loc = some l) :
    Calls Try.prog 34 #[.pointer (some ⟨G, 0, none⟩), .agg #[.int .i64 18, .int .i64 a, .int .i64 b, .int .i64 c, .int .i64 n, .complex .f64 x z], .slice (some ⟨y.lb, 0, none⟩) l.length l.length] w fun e w' => e = .returned (.tuple #[vlV zeroVl, .int .i64 0]) ∧ Pure w w' := by
  have hK : LkW w κ G st y w.heap.size (w.heap.size + 1) ⟨18, a, b, c, n, x, z⟩ zeroVl ((w.alloc (.cells #[.int .i64 18, .int .i64 a, .int .i64 b, .int .i64 c, .int .i64 n, .complex .f64 x z] 38)).alloc (.cells #[.bool false, .complex .f64 0 0] 34)) := LkW.start h ⟨18, a, b, c, n, x, z⟩
  have hs2 : ((w.alloc (.cells #[.int .i64 18, .int .i64 a, .int .i64 b, .int .i64 c, .int .i64 n, .complex .f64 x z] 38)).alloc (.cells #[.bool false, .complex .f64 0 0] 34)).heap.size = w.heap.size + 2 := by simp
  have K2 := Lib.hid hK
  have S2 := Lib.hid hs2
  obtain ⟨o0, o1, o2, o3, o4, o5⟩ := op6 hK.op
  obtain ⟨r0, r1, r2, r3⟩ := val2 hK.re
  have HN := Lib.hid (hK.nokey h)
  have HDOM := Lib.hid h.dom
  clear _hl h hK
  go_enter Try.func34, Try.ntmps34
  go_wp2_with fail
  exact bodyPost_ret (v := .tuple #[vlV zeroVl, .int .i64 0]) (by simp [results, Try.results34, go_sem, zeroVl, r0, r1]) rfl ⟨rfl, K2.out.pu⟩


set_option maxRecDepth 100000 in
set_option maxHeartbeats 4000000 in
theorem does_copy {w : World} {κ : Nat → Option Cl} {G : Nat} {st : GS} {y : Ly} (h : GRL w κ G st y) (a c n : Int) (x z : Nat) (l : List Vl) (hl : st.loc = some l) (j : Nat) (u : Vl) (hu : l[j]? = some u) :
    Calls Try.prog 34 #[.pointer (some ⟨G, 0, none⟩), .agg #[.int .i64 14, .int .i64 a, .int .i64 ((j : Nat) : Int), .int .i64 c, .int .i64 n, .complex .f64 x z], .slice (some ⟨y.lb, 0, none⟩) l.length l.length] w fun e w' => e = .returned (.tuple #[vlV u, .int .i64 0]) ∧ Pure w w' := by
  have hK : LkW w κ G st y w.heap.size (w.heap.size + 1) ⟨14, a, ((j : Nat) : Int), c, n, x, z⟩ zeroVl ((w.alloc (.cells #[.int .i64 14, .int .i64 a, .int .i64 ((j : Nat) : Int), .int .i64 c, .int .i64 n, .complex .f64 x z] 38)).alloc (.cells #[.bool false, .complex .f64 0 0] 34)) := LkW.start h ⟨14, a, ((j : Nat) : Int), c, n, x, z⟩
  have hs2 : ((w.alloc (.cells #[.int .i64 14, .int .i64 a, .int .i64 ((j : Nat) : Int), .int .i64 c, .int .i64 n, .complex .f64 x z] 38)).alloc (.cells #[.bool false, .complex .f64 0 0] 34)).heap.size = w.heap.size + 2 := by simp
  have K2 := Lib.hid hK
  have S2 := Lib.hid hs2
  obtain ⟨o0, o1, o2, o3, o4, o5⟩ := op6 hK.op
  obtain ⟨r0, r1, r2, r3⟩ := val2 hK.re
  have HN := Lib.hid (hK.nokey h)
  have HDOM := Lib.hid h.dom
  obtain ⟨hlb, hle, -⟩ := h.local hl
  have hlt := (List.getElem?_eq_some_iff.1 hu).1
  obtain ⟨e0, e1, -, -⟩ := vcell (T := 34) hlb hu
  have e0' := Pure.keep hK.pu e0
  have e1' := Pure.keep hK.pu e1
  obtain ⟨f0, f1, -, -⟩ := val_new (w.alloc (.cells #[.int .i64 14, .int .i64 a, .int .i64 ((j : Nat) : Int), .int .i64 c, .int .i64 n, .complex .f64 x z] 38)) u
  rw [show (w.alloc (.cells #[.int .i64 14, .int .i64 a, .int .i64 ((j : Nat) : Int), .int .i64 c, .int .i64 n, .complex .f64 x z] 38)).heap.size = w.heap.size + 1 from by simp] at f0 f1
  clear hl h hK e0 e1 hlb hu
  go_enter Try.func34, Try.ntmps34
  go_wp2_with fail
  exact bodyPost_ret (v := .tuple #[vlV u, .int .i64 0]) (by simp [results, Try.results34, go_sem, f0, f1]) rfl ⟨rfl, ((Only.refl _ w).alloc _).alloc _⟩


theorem vcs_put (g : List Vl) (n : Nat) (v : Vl) (hn : n < g.length) : ((vcs g).set (n * 2) (.bool v.r)).set (n * 2 + 1) (.complex .f64 v.x v.y) = vcs (g.set n v) := vcs_set g n v hn
/-- A global's two cells. -/
theorem GRL.glob {w : World} {κ : Nat → Option Cl} {G : Nat} {st : GS} {y : Ly} (h : GRL w κ G st y) {n : Nat} {u : Vl} (hn : st.glo[n]? = some u) :
    ∃ q, y.E = some ⟨q, 0, none⟩ ∧ w.cell? ⟨q, n * 2, none⟩ = some (.bool u.r) ∧ w.cell? ⟨q, n * 2 + 1, none⟩ = some (.complex .f64 u.x u.y) ∧ w.frozen? ⟨q, n * 2, none⟩ = false ∧ w.frozen? ⟨q, n * 2 + 1, none⟩ = false ∧ κ q = some .l ∧ q < w.heap.size := by
  have hlt := (List.getElem?_eq_some_iff.1 hn).1
  obtain ⟨q, cap, e, -⟩ := h.glo.form (by omega)
  injection e with e1 e2 e3
  have hg := h.glo
  have hk := h.glok q (by rw [e1]; rfl)
  rw [e1] at hg
  have := vcs_get st.glo n u hn
  exact ⟨q, e1, by rw [hg.cellAt (n * 2) (by omega)]; exact this.1, by rw [hg.cellAt (n * 2 + 1) (by omega)]; exact this.2, hg.frozenAt _, hg.frozenAt _, hk, h.dom q (by rw [hk]; simp)⟩
theorem GRL.globSet {w : World} {κ : Nat → Option Cl} {G : Nat} {st : GS} {y : Ly} {n q : Nat} {v : Vl} (h : GRL w κ G st y) (hn : n < st.glo.length) (hq : y.E = some ⟨q, 0, none⟩) :
    GRL ((w.setCell ⟨q, n * 2, none⟩ (.bool v.r)).setCell ⟨q, n * 2 + 1, none⟩ (.complex .f64 v.x v.y)) κ G { st with glo := st.glo.set n v } y := by
  have hg := h.glo
  have ho : Only (fun k => k = q) w ((w.setCell ⟨q, n * 2, none⟩ (.bool v.r)).setCell ⟨q, n * 2 + 1, none⟩ (.complex .f64 v.x v.y)) := ((Only.refl (fun k => k = q) w).setCell (p := ⟨q, n * 2, none⟩) (fun _ => rfl) _).setCell (p := ⟨q, n * 2 + 1, none⟩) (fun _ => rfl) _
  refine h.setGlobal (q := q) (by rw [hq]; rfl) (by simp) ho ?_
  rw [hq] at hg ⊢
  have := ((hg.stored (n * 2) (.bool v.r)).1.stored (n * 2 + 1) (.complex .f64 v.x v.y)).1
  rw [vcs_put _ _ _ hn] at this
  exact this


set_option maxRecDepth 100000 in
set_option maxHeartbeats 4000000 in
theorem does_set {w : World} {κ : Nat → Option Cl} {G : Nat} {st : GS} {y : Ly} (h : GRL w κ G st y) (a c : Int) (x z : Nat) (l : List Vl) (hl : st.loc = some l) (j m : Nat) (u told : Vl) (hu : l[j]? = some u) (hg : st.glo[m]? = some told) (hm : st.glo.length ≤ 1000000) :
    Calls Try.prog 34 #[.pointer (some ⟨G, 0, none⟩), .agg #[.int .i64 8, .int .i64 a, .int .i64 ((j : Nat) : Int), .int .i64 c, .int .i64 ((m : Nat) : Int), .complex .f64 x z], .slice (some ⟨y.lb, 0, none⟩) l.length l.length] w fun e w' => e = .returned (.tuple #[vlV zeroVl, .int .i64 0]) ∧ GNew w κ G { st with glo := st.glo.set m u } y.lb w' := by
  have hK : LkW w κ G st y w.heap.size (w.heap.size + 1) ⟨8, a, ((j : Nat) : Int), c, ((m : Nat) : Int), x, z⟩ zeroVl ((w.alloc (.cells #[.int .i64 8, .int .i64 a, .int .i64 ((j : Nat) : Int), .int .i64 c, .int .i64 ((m : Nat) : Int), .complex .f64 x z] 38)).alloc (.cells #[.bool false, .complex .f64 0 0] 34)) := LkW.start h ⟨8, a, ((j : Nat) : Int), c, ((m : Nat) : Int), x, z⟩
  have hs2 : ((w.alloc (.cells #[.int .i64 8, .int .i64 a, .int .i64 ((j : Nat) : Int), .int .i64 c, .int .i64 ((m : Nat) : Int), .complex .f64 x z] 38)).alloc (.cells #[.bool false, .complex .f64 0 0] 34)).heap.size = w.heap.size + 2 := by simp
  have K2 := Lib.hid hK
  have S2 := Lib.hid hs2
  obtain ⟨o0, o1, o2, o3, o4, o5⟩ := op6 hK.op
  obtain ⟨r0, r1, r2, r3⟩ := val2 hK.re
  have HN := Lib.hid (hK.nokey h)
  have HDOM := Lib.hid h.dom
  obtain ⟨hlb, hle, -⟩ := h.local hl
  have hlt := (List.getElem?_eq_some_iff.1 hu).1
  have hmt := (List.getElem?_eq_some_iff.1 hg).1
  have hm64 : (m : Int) < 9223372036854775808 := by omega
  obtain ⟨e0, e1, -, -⟩ := vcell (T := 34) hlb hu
  have e0' := Pure.keep hK.pu e0
  have e1' := Pure.keep hK.pu e1
  have c11 := hK.gr.c11
  obtain ⟨q, hE, g0, g1, g2, g3, hkq, hq⟩ := hK.gr.glob hg
  have hq2 : q < w.heap.size := HDOM.out q (by rw [hkq]; simp)
  rw [hE] at c11
  have HGS := Lib.hid (hK.gr.globSet (v := u) hmt hE)
  have HKQ := Lib.hid hkq
  have hqa : ¬ q = w.heap.size + 1 := by omega
  have hqb : ¬ w.heap.size + 1 = q := by omega
  have hqc : ¬ w.heap.size = q := by omega
  have hqd : ¬ q = w.heap.size := by omega
  clear hl h hK e0 e1 hlb hu hg hE hkq
  obtain ⟨ur, ux, uy⟩ := u
  obtain ⟨tr, tx, ty⟩ := told
  dsimp only at *
  go_enter Try.func34, Try.ntmps34
  go_wp2_with fail
  generalize (((w.alloc (.cells #[.int .i64 8, .int .i64 a, .int .i64 ((j : Nat) : Int), .int .i64 c, .int .i64 ((m : Nat) : Int), .complex .f64 x z] 38)).alloc (.cells #[.bool false, .complex .f64 0 0] 34))) = W2 at *
  refine still_tail_drew 12 (by kernel_rfl) (by kernel_rfl) ?_
  simp only [List.take_succ_cons, List.take_zero, List.drop_succ_cons, List.drop_zero]
  repeat (first | still_step)
  try refine wpStill_nil ?_
  change wpList _ _ _ _ _ (World.drew _)
  go_wp2_with fail
  refine bodyPost_ret (v := .tuple #[vlV zeroVl, .int .i64 0]) (by simp [results, Try.results34, go_sem, zeroVl, r0, r1]) rfl ⟨rfl, ?_⟩
  have ho := (set2 ((W2.setCell ⟨q, m * 2, none⟩ (.bool ur)).setCell ⟨q, m * 2 + 1, none⟩ (.complex .f64 ux uy)) (w.heap.size + 1) (.bool false) (.complex .f64 0 0)).drewN 1
  have hq1 : Only (fun k => k = q) W2 ((W2.setCell ⟨q, m * 2, none⟩ (.bool ur)).setCell ⟨q, m * 2 + 1, none⟩ (.complex .f64 ux uy)) := ((Only.refl (fun k => k = q) W2).setCell (p := ⟨q, m * 2, none⟩) (fun _ => rfl) _).setCell (p := ⟨q, m * 2 + 1, none⟩) (fun _ => rfl) _
  refine ⟨κ, y, HGS.out.only ho (fun k hk e => by subst e; have := HDOM.out _ hk; omega), rfl, ?_, fun _ _ => rfl⟩
  exact ((K2.out.pu.mono (fun _ _ f => f.elim)).trans hq1 (fun k _ e => by subst e; rw [HKQ.out]; simp)).trans ho (fun k hk e => absurd e (by omega))


set_option maxRecDepth 100000 in
set_option maxHeartbeats 4000000 in
theorem does_4 {w : World} {κ : Nat → Option Cl} {G : Nat} {st : GS} {y : Ly} (h : GRL w κ G st y) (a b c n : Int) (x z : Nat) (l : List Vl) (_hl : st.loc = some l) (v : Vl) (st1 : GS) (hm : ∀ W, GRL W κ G st y → Calls Try.prog 56 #[.pointer (some ⟨G, 0, none⟩), .agg #[.int .i64 4, .int .i64 a, .int .i64 b, .int .i64 c, .int .i64 n, .complex .f64 x z], .slice (some ⟨y.lb, 0, none⟩) l.length l.length] W fun e w' => e = .returned (.tuple #[vlV v, .int .i64 0]) ∧ GNew W κ G st1 y.lb w') :
    Calls Try.prog 34 #[.pointer (some ⟨G, 0, none⟩), .agg #[.int .i64 4, .int .i64 a, .int .i64 b, .int .i64 c, .int .i64 n, .complex .f64 x z], .slice (some ⟨y.lb, 0, none⟩) l.length l.length] w fun e w' => e = .returned (.tuple #[vlV v, .int .i64 0]) ∧ GNew w κ G st1 y.lb w' := by
  have hK : LkW w κ G st y w.heap.size (w.heap.size + 1) ⟨4, a, b, c, n, x, z⟩ zeroVl ((w.alloc (.cells #[.int .i64 4, .int .i64 a, .int .i64 b, .int .i64 c, .int .i64 n, .complex .f64 x z] 38)).alloc (.cells #[.bool false, .complex .f64 0 0] 34)) := LkW.start h ⟨4, a, b, c, n, x, z⟩
  have hs2 : ((w.alloc (.cells #[.int .i64 4, .int .i64 a, .int .i64 b, .int .i64 c, .int .i64 n, .complex .f64 x z] 38)).alloc (.cells #[.bool false, .complex .f64 0 0] 34)).heap.size = w.heap.size + 2 := by simp
  have K2 := Lib.hid hK
  have S2 := Lib.hid hs2
  obtain ⟨o0, o1, o2, o3, o4, o5⟩ := op6 hK.op
  obtain ⟨r0, r1, r2, r3⟩ := val2 hK.re
  have HN := Lib.hid (hK.nokey h)
  have HDOM := Lib.hid h.dom
  have HM := Lib.hid hm
  have HH := Lib.hid h
  clear hK hs2 _hl hm h
  go_enter Try.func34, Try.ntmps34
  go_wp2_with fail
  refine (HM.out _ K2.out.gr).mono ?_
  rintro e w4 ⟨rfl, hg⟩
  obtain ⟨r0, r1, r2, r3⟩ := val2 (hg.val K2.out.re HN.out)
  have HG := Lib.hid hg
  clear hg
  go_wp2_with fail
  exact bodyPost_ret (v := .tuple #[vlV v, .int .i64 0]) (by simp [results, Try.results34, go_sem, r0, r1]) rfl ⟨rfl, GNew.wrap HDOM.out K2.out.pu HG.out K2.out.rr K2.out.lt (set2 _ _ _ _)⟩


set_option maxRecDepth 100000 in
set_option maxHeartbeats 4000000 in
theorem does_5 {w : World} {κ : Nat → Option Cl} {G : Nat} {st : GS} {y : Ly} (h : GRL w κ G st y) (a b c n : Int) (x z : Nat) (l : List Vl) (_hl : st.loc = some l) (v : Vl) (st1 : GS) (hm : ∀ W, GRL W κ G st y → Calls Try.prog 56 #[.pointer (some ⟨G, 0, none⟩), .agg #[.int .i64 5, .int .i64 a, .int .i64 b, .int .i64 c, .int .i64 n, .complex .f64 x z], .slice (some ⟨y.lb, 0, none⟩) l.length l.length] W fun e w' => e = .returned (.tuple #[vlV v, .int .i64 0]) ∧ GNew W κ G st1 y.lb w') :
    Calls Try.prog 34 #[.pointer (some ⟨G, 0, none⟩), .agg #[.int .i64 5, .int .i64 a, .int .i64 b, .int .i64 c, .int .i64 n, .complex .f64 x z], .slice (some ⟨y.lb, 0, none⟩) l.length l.length] w fun e w' => e = .returned (.tuple #[vlV v, .int .i64 0]) ∧ GNew w κ G st1 y.lb w' := by
  have hK : LkW w κ G st y w.heap.size (w.heap.size + 1) ⟨5, a, b, c, n, x, z⟩ zeroVl ((w.alloc (.cells #[.int .i64 5, .int .i64 a, .int .i64 b, .int .i64 c, .int .i64 n, .complex .f64 x z] 38)).alloc (.cells #[.bool false, .complex .f64 0 0] 34)) := LkW.start h ⟨5, a, b, c, n, x, z⟩
  have hs2 : ((w.alloc (.cells #[.int .i64 5, .int .i64 a, .int .i64 b, .int .i64 c, .int .i64 n, .complex .f64 x z] 38)).alloc (.cells #[.bool false, .complex .f64 0 0] 34)).heap.size = w.heap.size + 2 := by simp
  have K2 := Lib.hid hK
  have S2 := Lib.hid hs2
  obtain ⟨o0, o1, o2, o3, o4, o5⟩ := op6 hK.op
  obtain ⟨r0, r1, r2, r3⟩ := val2 hK.re
  have HN := Lib.hid (hK.nokey h)
  have HDOM := Lib.hid h.dom
  have HM := Lib.hid hm
  have HH := Lib.hid h
  clear hK hs2 _hl hm h
  go_enter Try.func34, Try.ntmps34
  go_wp2_with fail
  refine (HM.out _ K2.out.gr).mono ?_
  rintro e w4 ⟨rfl, hg⟩
  obtain ⟨r0, r1, r2, r3⟩ := val2 (hg.val K2.out.re HN.out)
  have HG := Lib.hid hg
  clear hg
  go_wp2_with fail
  exact bodyPost_ret (v := .tuple #[vlV v, .int .i64 0]) (by simp [results, Try.results34, go_sem, r0, r1]) rfl ⟨rfl, GNew.wrap HDOM.out K2.out.pu HG.out K2.out.rr K2.out.lt (set2 _ _ _ _)⟩


set_option maxRecDepth 100000 in
set_option maxHeartbeats 4000000 in
theorem does_10 {w : World} {κ : Nat → Option Cl} {G : Nat} {st : GS} {y : Ly} (h : GRL w κ G st y) (a b c n : Int) (x z : Nat) (l : List Vl) (_hl : st.loc = some l) (v : Vl) (st1 : GS) (hm : ∀ W, GRL W κ G st y → Calls Try.prog 56 #[.pointer (some ⟨G, 0, none⟩), .agg #[.int .i64 10, .int .i64 a, .int .i64 b, .int .i64 c, .int .i64 n, .complex .f64 x z], .slice (some ⟨y.lb, 0, none⟩) l.length l.length] W fun e w' => e = .returned (.tuple #[vlV v, .int .i64 0]) ∧ GNew W κ G st1 y.lb w') :
    Calls Try.prog 34 #[.pointer (some ⟨G, 0, none⟩), .agg #[.int .i64 10, .int .i64 a, .int .i64 b, .int .i64 c, .int .i64 n, .complex .f64 x z], .slice (some ⟨y.lb, 0, none⟩) l.length l.length] w fun e w' => e = .returned (.tuple #[vlV v, .int .i64 0]) ∧ GNew w κ G st1 y.lb w' := by
  have hK : LkW w κ G st y w.heap.size (w.heap.size + 1) ⟨10, a, b, c, n, x, z⟩ zeroVl ((w.alloc (.cells #[.int .i64 10, .int .i64 a, .int .i64 b, .int .i64 c, .int .i64 n, .complex .f64 x z] 38)).alloc (.cells #[.bool false, .complex .f64 0 0] 34)) := LkW.start h ⟨10, a, b, c, n, x, z⟩
  have hs2 : ((w.alloc (.cells #[.int .i64 10, .int .i64 a, .int .i64 b, .int .i64 c, .int .i64 n, .complex .f64 x z] 38)).alloc (.cells #[.bool false, .complex .f64 0 0] 34)).heap.size = w.heap.size + 2 := by simp
  have K2 := Lib.hid hK
  have S2 := Lib.hid hs2
  obtain ⟨o0, o1, o2, o3, o4, o5⟩ := op6 hK.op
  obtain ⟨r0, r1, r2, r3⟩ := val2 hK.re
  have HN := Lib.hid (hK.nokey h)
  have HDOM := Lib.hid h.dom
  have HM := Lib.hid hm
  have HH := Lib.hid h
  clear hK hs2 _hl hm h
  go_enter Try.func34, Try.ntmps34
  go_wp2_with fail
  refine (HM.out _ K2.out.gr).mono ?_
  rintro e w4 ⟨rfl, hg⟩
  obtain ⟨r0, r1, r2, r3⟩ := val2 (hg.val K2.out.re HN.out)
  have HG := Lib.hid hg
  clear hg
  go_wp2_with fail
  exact bodyPost_ret (v := .tuple #[vlV v, .int .i64 0]) (by simp [results, Try.results34, go_sem, r0, r1]) rfl ⟨rfl, GNew.wrap HDOM.out K2.out.pu HG.out K2.out.rr K2.out.lt (set2 _ _ _ _)⟩


set_option maxRecDepth 100000 in
set_option maxHeartbeats 4000000 in
theorem does_11 {w : World} {κ : Nat → Option Cl} {G : Nat} {st : GS} {y : Ly} (h : GRL w κ G st y) (a b c n : Int) (x z : Nat) (l : List Vl) (_hl : st.loc = some l) (v : Vl) (st1 : GS) (hm : ∀ W, GRL W κ G st y → Calls Try.prog 56 #[.pointer (some ⟨G, 0, none⟩), .agg #[.int .i64 11, .int .i64 a, .int .i64 b, .int .i64 c, .int .i64 n, .complex .f64 x z], .slice (some ⟨y.lb, 0, none⟩) l.length l.length] W fun e w' => e = .returned (.tuple #[vlV v, .int .i64 0]) ∧ GNew W κ G st1 y.lb w') :
    Calls Try.prog 34 #[.pointer (some ⟨G, 0, none⟩), .agg #[.int .i64 11, .int .i64 a, .int .i64 b, .int .i64 c, .int .i64 n, .complex .f64 x z], .slice (some ⟨y.lb, 0, none⟩) l.length l.length] w fun e w' => e = .returned (.tuple #[vlV v, .int .i64 0]) ∧ GNew w κ G st1 y.lb w' := by
  have hK : LkW w κ G st y w.heap.size (w.heap.size + 1) ⟨11, a, b, c, n, x, z⟩ zeroVl ((w.alloc (.cells #[.int .i64 11, .int .i64 a, .int .i64 b, .int .i64 c, .int .i64 n, .complex .f64 x z] 38)).alloc (.cells #[.bool false, .complex .f64 0 0] 34)) := LkW.start h ⟨11, a, b, c, n, x, z⟩
  have hs2 : ((w.alloc (.cells #[.int .i64 11, .int .i64 a, .int .i64 b, .int .i64 c, .int .i64 n, .complex .f64 x z] 38)).alloc (.cells #[.bool false, .complex .f64 0 0] 34)).heap.size = w.heap.size + 2 := by simp
  have K2 := Lib.hid hK
  have S2 := Lib.hid hs2
  obtain ⟨o0, o1, o2, o3, o4, o5⟩ := op6 hK.op
  obtain ⟨r0, r1, r2, r3⟩ := val2 hK.re
  have HN := Lib.hid (hK.nokey h)
  have HDOM := Lib.hid h.dom
  have HM := Lib.hid hm
  have HH := Lib.hid h
  clear hK hs2 _hl hm h
  go_enter Try.func34, Try.ntmps34
  go_wp2_with fail
  refine (HM.out _ K2.out.gr).mono ?_
  rintro e w4 ⟨rfl, hg⟩
  obtain ⟨r0, r1, r2, r3⟩ := val2 (hg.val K2.out.re HN.out)
  have HG := Lib.hid hg
  clear hg
  go_wp2_with fail
  exact bodyPost_ret (v := .tuple #[vlV v, .int .i64 0]) (by simp [results, Try.results34, go_sem, r0, r1]) rfl ⟨rfl, GNew.wrap HDOM.out K2.out.pu HG.out K2.out.rr K2.out.lt (set2 _ _ _ _)⟩

end Go.Proofs.Ytpllolefmijfdaa
