/-
  The contracts of (*Graph).Do.
-/
import Derived.Test.YtpllolefmijfdaaGr7
namespace Go.Proofs.Ytpllolefmijfdaa
open Go.RowKit

abbrev opK (k : Nat) (a b c n : Int) (x z : Nat) : Value := .agg #[.int .i64 (k : Int), .int .i64 a, .int .i64 b, .int .i64 c, .int .i64 n, .complex .f64 x z]
theorem vset {W : World} {b : Nat} {l : List Vl} {j : Nat} {v : Vl} {T : TypeId} (hb : W.heap[b]? = some (.cells (vcs l).toArray T (0, 0))) (hj : j < l.length) :
    ((W.setCell ⟨b, j * 2, none⟩ (.bool v.r)).setCell ⟨b, j * 2 + 1, none⟩ (.complex .f64 v.x v.y)).heap[b]? = some (.cells (vcs (l.set j v)).toArray T (0, 0)) := by
  simp [World.setCell, Array.getElem?_modify, hb, ← vcs_set l j v hj]
theorem setBlock_get (w : World) (b : Nat) (o : Obj) (h : b < w.heap.size) : (Go.ChangeMaps.setBlock w b o).heap[b]? = some o := by simp [Go.ChangeMaps.setBlock, h]
/-- The op may be. -/
def OpOk (κ : Nat → Option Cl) (G : Nat) (st : GS) (y : Ly) (l : List Vl) (o : Value) : Prop :=
  (∀ W, GRL W κ G st y → Calls Try.prog 32 #[cnV st.c (.slice y.A y.m.length y.cc), o] W fun e w' => e = .returned (.int .i64 0) ∧ Pure W w') ∧
  (∀ W, GRL W κ G st y → Calls Try.prog 33 #[o, .slice (some ⟨y.lb, 0, none⟩) l.length l.length] W fun e w' => e = .returned (.int .i64 0) ∧ Pure W w')
def OpDoes (κ : Nat → Option Cl) (G : Nat) (st : GS) (y : Ly) (l : List Vl) (o : Value) (v : Vl) (st1 : GS) : Prop :=
  ∀ W, GRL W κ G st y → Calls Try.prog 34 #[.pointer (some ⟨G, 0, none⟩), o, .slice (some ⟨y.lb, 0, none⟩) l.length l.length] W fun e w' => e = .returned (.tuple #[vlV v, .int .i64 0]) ∧ GNew W κ G st1 y.lb w'


set_option maxRecDepth 100000 in
set_option maxHeartbeats 4000000 in
theorem do_ans {w : World} {κ : Nat → Option Cl} {G : Nat} {st : GS} {y : Ly} (h : GRL w κ G st y) (k : Nat) (a b c n : Int) (x z : Nat) (l : List Vl) (hl : st.loc = some l) (v : Vl) (st1 : GS) (hok : OpOk κ G st y l (opK k a b c n x z)) (hdo : OpDoes κ G st y l (opK k a b c n x z) v st1) (hk : k < 19) (h18 : ¬ (k : Int) = 18) (hans : ansB k = true) (ja : Nat) (ha : a = ja) (hja : ja < l.length) (hl1 : st1.loc = some l) :
    Calls Try.prog 19 #[.pointer (some ⟨G, 0, none⟩), .int .i64 0, opK k a b c n x z, .bool false] w fun e w' => e = .returned (.tuple #[vlV v, .int .i64 0]) ∧ GNew w κ G { st1 with loc := some (l.set ja v) } y.lb w' := by
  subst ha
  obtain ⟨hlb, hle, clock, born, hmp⟩ := h.local hl
  obtain ⟨hck, hop⟩ := hok
  have hK : LkW w κ G st y w.heap.size (w.heap.size + 1) ⟨(k : Int), (ja : Int), b, c, n, x, z⟩ zeroVl ((w.alloc (.cells #[.int .i64 (k : Int), .int .i64 ((ja : Nat) : Int), .int .i64 b, .int .i64 c, .int .i64 n, .complex .f64 x z] 38)).alloc (.cells #[.bool false, .complex .f64 0 0] 34)) := LkW.start h ⟨(k : Int), (ja : Int), b, c, n, x, z⟩
  have hs2 : ((w.alloc (.cells #[.int .i64 (k : Int), .int .i64 ((ja : Nat) : Int), .int .i64 b, .int .i64 c, .int .i64 n, .complex .f64 x z] 38)).alloc (.cells #[.bool false, .complex .f64 0 0] 34)).heap.size = w.heap.size + 2 := by simp
  have K2 := Lib.hid hK
  have S2 := Lib.hid hs2
  obtain ⟨o0, o1, o2, o3, o4, o5⟩ := op6 hK.op
  obtain ⟨r0, r1, r2, r3⟩ := val2 hK.re
  obtain ⟨c0, c1, c2, c3, c4, c5, c6, c7, c8⟩ := hK.gr.cells
  have c10 := hK.gr.c10
  have qn : ∀ (w : World) (a : Addr) (n c : Nat), (binOp .eql 51 (.slice (some a) n c) (.slice none 0 0)).run Try.prog w = .ok (.bool false) w := fun w a n c => Lib.run_eql_slice_nil w _ _ _ _ _ _ _ Try.underlying51
  have hlk := map_look1 (Pure.blk hK.pu hmp)
  have HN := Lib.hid (hK.nokey h)
  have HDOM := Lib.hid h.dom
  have HCK := Lib.hid hck
  have HOP := Lib.hid hop
  have HDO := Lib.hid hdo
  have HL := Lib.hid hl
  have HX : Hid (κ w.heap.size = none) := Lib.hid (Classical.byContradiction fun hn => by have := h.dom _ hn; omega)
  clear hlb hmp hK hs2 hck hop hdo hl h
  go_enter Try.func19, Try.ntmps19
  go_wp2_with fail
  go_region_with ((go_at_call 32; refine (HCK.out _ (K2.out.gr.pure ((Only.refl _ _).drewN 1))).mono ?_; rintro e w4 ⟨rfl, hp4⟩; have K4 := Lib.hid (K2.out.keep (Pure.then ((Only.refl _ _).drewN 1) hp4)); clear hp4))
  all_goals
   (clear qn hlk o0 o1 o2 o3 o4 o5 r0 r1 r2 r3 c0 c1 c2 c3 c4 c5 c6 c7 c8 c10
    obtain ⟨o0, o1, o2, o3, o4, o5⟩ := op6 K4.out.op
    go_wp2_with fail
    refine (HOP.out _ K4.out.gr).mono ?_
    rintro e w5 ⟨rfl, hp5⟩
    have K5 := Lib.hid (K4.out.keep hp5)
    clear hp5 o0 o1 o2 o3 o4 o5
    obtain ⟨o0, o1, o2, o3, o4, o5⟩ := op6 K5.out.op
    go_wp2_with fail
    refine (HDO.out _ K5.out.gr).mono ?_
    rintro e w6 ⟨rfl, hg6⟩
    have G6 := Lib.hid hg6
    clear hg6 o0 o1 o2 o3 o4 o5
    obtain ⟨f0, f1, f2, f3⟩ := val_new w6 v
    have hpa := (Only.refl (fun _ => False) w6).alloc (.cells #[.bool v.r, .complex .f64 v.x v.y] 34)
    have hop6 := Pure.blk hpa (G6.out.val K5.out.op HX.out)
    have hre6 := Pure.blk hpa (G6.out.val K5.out.re HN.out)
    obtain ⟨o0, o1, o2, o3, o4, o5⟩ := op6 hop6
    obtain ⟨r0, r1, r2, r3⟩ := val2 hre6
    have hRlt : w.heap.size + 1 < w6.heap.size := by
      have h1 := K5.out.lt
      obtain ⟨_, _, _, _, h2, _⟩ := G6.out
      have := h2.size
      omega
    obtain ⟨κ', y', g1, g2, g3, g4⟩ := G6.out
    obtain ⟨hlb, -, -⟩ := g1.local hl1
    obtain ⟨e0, e1, e2, e3⟩ := vcell (T := 34) (Pure.blk hpa hlb) (List.getElem?_eq_getElem hja)
    have hlbk : κ' y'.lb = some .o := by have := g1.map; rw [hl1] at this; exact this.2.2.1
    rw [g2] at e0 e1 e2 e3 hlb hlbk
    have hlb6 : y.lb < w6.heap.size := g1.dom _ (by rw [hlbk]; simp)
    have hlbR : ¬ y.lb = w.heap.size + 1 := fun e => by
      have := g4 _ K5.out.lt
      rw [← e, hlbk, e, HN.out] at this
      simp at this
    have hu0 : ¬ w.heap.size + 1 = y.lb := fun e => hlbR e.symm
    have hu1 : ¬ y.lb = w6.heap.size := by omega
    have hu2 : ¬ w6.heap.size = y.lb := by omega
    have hu3 : ¬ w.heap.size + 1 = w6.heap.size := by omega
    have hu4 : ¬ w6.heap.size = w.heap.size + 1 := by omega
    generalize l[ja] = told at *
    have GG1 := Lib.hid g1
    have GG3 := Lib.hid g3
    have GG4 := Lib.hid g4
    have HLB := Lib.hid hlb
    have HLBK := Lib.hid hlbk
    have HPA := Lib.hid hpa
    clear g1 g3 g4 hlb hlbk hpa hop6 hre6
    go_wp2_with fail
    generalize w6.alloc (.cells #[.bool v.r, .complex .f64 v.x v.y] 34) = w7 at *
    refine (answers_in k hk _).mono ?_
    rw [hans]
    rintro e w8 ⟨rfl, rfl⟩
    go_wp2_with fail
    refine bodyPost_ret (v := .tuple #[vlV v, .int .i64 0]) (by simp [results, Try.results19, go_sem, r0, r1]) rfl ⟨rfl, ?_⟩
    have h7 := GG1.out.pure HPA.out
    have ho : Only (fun k => k = y.lb) w7 ((w7.setCell ⟨y.lb, ja * 2, none⟩ (.bool v.r)).setCell ⟨y.lb, ja * 2 + 1, none⟩ (.complex .f64 v.x v.y)) := ((Only.refl (fun k => k = y.lb) w7).setCell (p := ⟨y.lb, ja * 2, none⟩) (fun _ => rfl) _).setCell (p := ⟨y.lb, ja * 2 + 1, none⟩) (fun _ => rfl) _
    have h8 := h7.setLocal (j := ja) (v := v) hl1 (by rw [g2]; exact ho) (by rw [g2]; exact vset (Pure.blk HPA.out HLB.out) hja)
    have hlk : κ y.lb = some .o := by have := K5.out.gr.map; rw [HL.out] at this; exact this.2.2.1
    exact GNew.wrap HDOM.out K5.out.pu ⟨κ', y', h8, g2, (GG3.out.trans (HPA.out.mono (fun _ _ f => f.elim)) (fun _ _ e => e)).trans ho (fun k _ e => by subst e; rw [hlk]; simp), GG4.out⟩ K5.out.rr K5.out.lt (set2 _ _ _ _))


set_option maxRecDepth 100000 in
set_option maxHeartbeats 4000000 in
theorem do_noans {w : World} {κ : Nat → Option Cl} {G : Nat} {st : GS} {y : Ly} (h : GRL w κ G st y) (k : Nat) (a b c n : Int) (x z : Nat) (l : List Vl) (hl : st.loc = some l) (v : Vl) (st1 : GS) (hok : OpOk κ G st y l (opK k a b c n x z)) (hdo : OpDoes κ G st y l (opK k a b c n x z) v st1) (hk : k < 19) (h18 : ¬ (k : Int) = 18) (hans : ansB k = false) :
    Calls Try.prog 19 #[.pointer (some ⟨G, 0, none⟩), .int .i64 0, opK k a b c n x z, .bool false] w fun e w' => e = .returned (.tuple #[vlV zeroVl, .int .i64 0]) ∧ GNew w κ G st1 y.lb w' := by
  obtain ⟨hlb, hle, clock, born, hmp⟩ := h.local hl
  obtain ⟨hck, hop⟩ := hok
  have hK : LkW w κ G st y w.heap.size (w.heap.size + 1) ⟨(k : Int), a, b, c, n, x, z⟩ zeroVl ((w.alloc (.cells #[.int .i64 (k : Int), .int .i64 a, .int .i64 b, .int .i64 c, .int .i64 n, .complex .f64 x z] 38)).alloc (.cells #[.bool false, .complex .f64 0 0] 34)) := LkW.start h ⟨(k : Int), a, b, c, n, x, z⟩
  have hs2 : ((w.alloc (.cells #[.int .i64 (k : Int), .int .i64 a, .int .i64 b, .int .i64 c, .int .i64 n, .complex .f64 x z] 38)).alloc (.cells #[.bool false, .complex .f64 0 0] 34)).heap.size = w.heap.size + 2 := by simp
  have K2 := Lib.hid hK
  have S2 := Lib.hid hs2
  obtain ⟨o0, o1, o2, o3, o4, o5⟩ := op6 hK.op
  obtain ⟨r0, r1, r2, r3⟩ := val2 hK.re
  obtain ⟨c0, c1, c2, c3, c4, c5, c6, c7, c8⟩ := hK.gr.cells
  have c10 := hK.gr.c10
  have qn : ∀ (w : World) (a : Addr) (n c : Nat), (binOp .eql 51 (.slice (some a) n c) (.slice none 0 0)).run Try.prog w = .ok (.bool false) w := fun w a n c => Lib.run_eql_slice_nil w _ _ _ _ _ _ _ Try.underlying51
  have hlk := map_look1 (Pure.blk hK.pu hmp)
  have HN := Lib.hid (hK.nokey h)
  have HDOM := Lib.hid h.dom
  have HCK := Lib.hid hck
  have HOP := Lib.hid hop
  have HDO := Lib.hid hdo
  have HL := Lib.hid hl
  have HX : Hid (κ w.heap.size = none) := Lib.hid (Classical.byContradiction fun hn => by have := h.dom _ hn; omega)
  clear hlb hmp hK hs2 hck hop hdo hl h
  go_enter Try.func19, Try.ntmps19
  go_wp2_with fail
  go_region_with ((go_at_call 32; refine (HCK.out _ (K2.out.gr.pure ((Only.refl _ _).drewN 1))).mono ?_; rintro e w4 ⟨rfl, hp4⟩; have K4 := Lib.hid (K2.out.keep (Pure.then ((Only.refl _ _).drewN 1) hp4)); clear hp4))
  all_goals
   (clear qn hlk o0 o1 o2 o3 o4 o5 r0 r1 r2 r3 c0 c1 c2 c3 c4 c5 c6 c7 c8 c10
    obtain ⟨o0, o1, o2, o3, o4, o5⟩ := op6 K4.out.op
    go_wp2_with fail
    refine (HOP.out _ K4.out.gr).mono ?_
    rintro e w5 ⟨rfl, hp5⟩
    have K5 := Lib.hid (K4.out.keep hp5)
    clear hp5 o0 o1 o2 o3 o4 o5
    obtain ⟨o0, o1, o2, o3, o4, o5⟩ := op6 K5.out.op
    go_wp2_with fail
    refine (HDO.out _ K5.out.gr).mono ?_
    rintro e w6 ⟨rfl, hg6⟩
    have G6 := Lib.hid hg6
    clear hg6 o0 o1 o2 o3 o4 o5
    obtain ⟨f0, f1, f2, f3⟩ := val_new w6 v
    have hpa := (Only.refl (fun _ => False) w6).alloc (.cells #[.bool v.r, .complex .f64 v.x v.y] 34)
    have hop6 := Pure.blk hpa (G6.out.val K5.out.op HX.out)
    have hre6 := Pure.blk hpa (G6.out.val K5.out.re HN.out)
    obtain ⟨o0, o1, o2, o3, o4, o5⟩ := op6 hop6
    obtain ⟨r0, r1, r2, r3⟩ := val2 hre6
    have hRlt : w.heap.size + 1 < w6.heap.size := by
      have h1 := K5.out.lt
      obtain ⟨_, _, _, _, h2, _⟩ := G6.out
      have := h2.size
      omega
    have hu3 : ¬ w.heap.size + 1 = w6.heap.size := by omega
    have hu4 : ¬ w6.heap.size = w.heap.size + 1 := by omega
    have HPA := Lib.hid hpa
    clear hpa hop6 hre6
    go_wp2_with fail
    generalize w6.alloc (.cells #[.bool v.r, .complex .f64 v.x v.y] 34) = w7 at *
    refine (answers_in k hk _).mono ?_
    rw [hans]
    rintro e w8 ⟨rfl, rfl⟩
    go_wp2_with fail
    refine bodyPost_ret (v := .tuple #[vlV zeroVl, .int .i64 0]) (by simp [results, Try.results19, go_sem, zeroVl, r0, r1]) rfl ⟨rfl, ?_⟩
    obtain ⟨κ', y', g1, g2, g3, g4⟩ := G6.out
    exact GNew.wrap HDOM.out K5.out.pu ⟨κ', y', g1.pure HPA.out, g2, (g3.trans (HPA.out.mono (fun _ _ f => f.elim)) (fun _ _ e => e)), g4⟩ K5.out.rr K5.out.lt (set2 _ _ _ _))


set_option maxRecDepth 100000 in
set_option maxHeartbeats 4000000 in
theorem do_leave {w : World} {κ : Nat → Option Cl} {G : Nat} {st : GS} {y : Ly} (h : GRL w κ G st y) (a b c n : Int) (x z : Nat) (l : List Vl) (hl : st.loc = some l) (v : Vl) (st1 : GS) (hok : OpOk κ G st y l ((.agg #[.int .i64 18, .int .i64 a, .int .i64 b, .int .i64 c, .int .i64 n, .complex .f64 x z]))) (hdo : OpDoes κ G st y l ((.agg #[.int .i64 18, .int .i64 a, .int .i64 b, .int .i64 c, .int .i64 n, .complex .f64 x z])) v st1) (hl1 : st1.loc = some l) :
    Calls Try.prog 19 #[.pointer (some ⟨G, 0, none⟩), .int .i64 0, (.agg #[.int .i64 18, .int .i64 a, .int .i64 b, .int .i64 c, .int .i64 n, .complex .f64 x z]), .bool false] w fun e w' => e = .returned (.tuple #[vlV zeroVl, .int .i64 0]) ∧ GNew w κ G { st1 with loc := none } y.lb w' := by
  obtain ⟨hlb, hle, clock, born, hmp⟩ := h.local hl
  obtain ⟨hck, hop⟩ := hok
  have hK : LkW w κ G st y w.heap.size (w.heap.size + 1) ⟨18, a, b, c, n, x, z⟩ zeroVl ((w.alloc (.cells #[.int .i64 18, .int .i64 a, .int .i64 b, .int .i64 c, .int .i64 n, .complex .f64 x z] 38)).alloc (.cells #[.bool false, .complex .f64 0 0] 34)) := LkW.start h ⟨18, a, b, c, n, x, z⟩
  have hs2 : ((w.alloc (.cells #[.int .i64 18, .int .i64 a, .int .i64 b, .int .i64 c, .int .i64 n, .complex .f64 x z] 38)).alloc (.cells #[.bool false, .complex .f64 0 0] 34)).heap.size = w.heap.size + 2 := by simp
  have K2 := Lib.hid hK
  have S2 := Lib.hid hs2
  obtain ⟨o0, o1, o2, o3, o4, o5⟩ := op6 hK.op
  obtain ⟨r0, r1, r2, r3⟩ := val2 hK.re
  obtain ⟨c0, c1, c2, c3, c4, c5, c6, c7, c8⟩ := hK.gr.cells
  have c10 := hK.gr.c10
  have qn : ∀ (w : World) (a : Addr) (n c : Nat), (binOp .eql 51 (.slice (some a) n c) (.slice none 0 0)).run Try.prog w = .ok (.bool false) w := fun w a n c => Lib.run_eql_slice_nil w _ _ _ _ _ _ _ Try.underlying51
  have hlk := map_look1 (Pure.blk hK.pu hmp)
  have HN := Lib.hid (hK.nokey h)
  have HDOM := Lib.hid h.dom
  have HCK := Lib.hid hck
  have HOP := Lib.hid hop
  have HDO := Lib.hid hdo
  have HL := Lib.hid hl
  have HX : Hid (κ w.heap.size = none) := Lib.hid (Classical.byContradiction fun hn => by have := h.dom _ hn; omega)
  clear hlb hmp hK hs2 hck hop hdo hl h
  go_enter Try.func19, Try.ntmps19
  go_wp2_with fail
  go_region_with ((go_at_call 32; refine (HCK.out _ (K2.out.gr.pure ((Only.refl _ _).drewN 1))).mono ?_; rintro e w4 ⟨rfl, hp4⟩; have K4 := Lib.hid (K2.out.keep (Pure.then ((Only.refl _ _).drewN 1) hp4)); clear hp4))
  all_goals
   (clear qn hlk o0 o1 o2 o3 o4 o5 r0 r1 r2 r3 c0 c1 c2 c3 c4 c5 c6 c7 c8 c10
    obtain ⟨o0, o1, o2, o3, o4, o5⟩ := op6 K4.out.op
    go_wp2_with fail
    refine (HOP.out _ K4.out.gr).mono ?_
    rintro e w5 ⟨rfl, hp5⟩
    have K5 := Lib.hid (K4.out.keep hp5)
    clear hp5 o0 o1 o2 o3 o4 o5
    obtain ⟨o0, o1, o2, o3, o4, o5⟩ := op6 K5.out.op
    go_wp2_with fail
    refine (HDO.out _ K5.out.gr).mono ?_
    rintro e w6 ⟨rfl, hg6⟩
    have G6 := Lib.hid hg6
    clear hg6 o0 o1 o2 o3 o4 o5
    obtain ⟨f0, f1, f2, f3⟩ := val_new w6 v
    have hpa := (Only.refl (fun _ => False) w6).alloc (.cells #[.bool v.r, .complex .f64 v.x v.y] 34)
    have hop6 := Pure.blk hpa (G6.out.val K5.out.op HX.out)
    have hre6 := Pure.blk hpa (G6.out.val K5.out.re HN.out)
    obtain ⟨o0, o1, o2, o3, o4, o5⟩ := op6 hop6
    obtain ⟨r0, r1, r2, r3⟩ := val2 hre6
    have hRlt : w.heap.size + 1 < w6.heap.size := by
      have h1 := K5.out.lt
      obtain ⟨_, _, _, _, h2, _⟩ := G6.out
      have := h2.size
      omega
    obtain ⟨κ', y', g1, g2, g3, g4⟩ := G6.out
    have h7 := g1.pure hpa
    obtain ⟨-, -, clock', born', hmp7⟩ := h7.local hl1
    have c10 := h7.c10
    have c5 := fun ty => map_del1 ty hmp7
    have hMlt := h7.dom y'.M (by rw [h7.mapk]; simp)
    have hMR : ¬ y'.M = w.heap.size + 1 := fun e => by
      have := g4 _ K5.out.lt
      rw [← e, h7.mapk, e, HN.out] at this
      simp at this
    have hMX : ¬ y'.M = w.heap.size := fun e => by
      have := g4 w.heap.size (by have := K5.out.lt; omega)
      rw [← e, h7.mapk, e, HX.out] at this
      simp at this
    have hsb := setBlock_only (w6.alloc (.cells #[.bool v.r, .complex .f64 v.x v.y] 34)) y'.M (.map #[] clock')
    obtain ⟨p0, -, -, -, -, -⟩ := op6 (hsb.blk hop6 (fun e => hMX e.symm))
    obtain ⟨s0, s1, s2, s3⟩ := val2 (hsb.blk hre6 (fun e => hMR e.symm))
    have hu3 : ¬ w.heap.size + 1 = w6.heap.size := by omega
    have hu4 : ¬ w6.heap.size = w.heap.size + 1 := by omega
    have hM7 : (Go.ChangeMaps.setBlock (w6.alloc (.cells #[.bool v.r, .complex .f64 v.x v.y] 34)) y'.M (.map #[] clock')).heap[y'.M]? = some (.map #[] clock') := setBlock_get _ _ _ hMlt
    have HPA := Lib.hid hpa
    have GG1 := Lib.hid g1
    have GG3 := Lib.hid g3
    have GG4 := Lib.hid g4
    have H7 := Lib.hid h7
    have HSB := Lib.hid hsb
    have HM7 := Lib.hid hM7
    clear hpa hop6 hre6 g1 g3 g4 h7 hsb hmp7 hM7
    go_wp2_with fail
    generalize w6.alloc (.cells #[.bool v.r, .complex .f64 v.x v.y] 34) = w7 at *
    refine (answers_in 18 (by omega) _).mono ?_
    rw [show ansB ((18 : Nat) : Int) = false from rfl]
    rintro e w8 ⟨rfl, rfl⟩
    go_wp2_with fail
    refine bodyPost_ret (v := .tuple #[vlV zeroVl, .int .i64 0]) (by simp [results, Try.results19, go_sem, zeroVl, s0, s1]) rfl ⟨rfl, ?_⟩
    have h8 := H7.out.setMap (o := none) (lb := y'.lb) κ' (fun _ _ => rfl) (fun k hk => Nat.lt_of_lt_of_le (H7.out.dom k hk) HSB.out.size) HSB.out ⟨clock', HM7.out⟩
    exact GNew.wrap HDOM.out K5.out.pu ⟨κ', _, h8, g2, (GG3.out.trans (HPA.out.mono (fun _ _ f => f.elim)) (fun _ _ e => e)).trans HSB.out (fun k hk e => by subst e; rw [← GG4.out _ hk, H7.out.mapk]; simp), GG4.out⟩ K5.out.rr K5.out.lt (set2 _ _ _ _))


/-- No such thread. -/
theorem do_state {w : World} {κ : Nat → Option Cl} {G : Nat} {st : GS} {y : Ly} (h : GRL w κ G st y) (k : Nat) (a b c n : Int) (x z : Nat) (hl : st.loc = none) :
    Calls Try.prog 19 #[.pointer (some ⟨G, 0, none⟩), .int .i64 0, opK k a b c n x z, .bool false] w fun e w' => e = .returned (.tuple #[vlV zeroVl, .int .i64 8]) ∧ Pure w w' := by
  have hmp := h.map
  rw [hl] at hmp
  obtain ⟨clock, hmp⟩ := hmp
  have hK : LkW w κ G st y w.heap.size (w.heap.size + 1) ⟨(k : Int), a, b, c, n, x, z⟩ zeroVl ((w.alloc (.cells #[.int .i64 (k : Int), .int .i64 a, .int .i64 b, .int .i64 c, .int .i64 n, .complex .f64 x z] 38)).alloc (.cells #[.bool false, .complex .f64 0 0] 34)) := LkW.start h ⟨(k : Int), a, b, c, n, x, z⟩
  have hs2 : ((w.alloc (.cells #[.int .i64 (k : Int), .int .i64 a, .int .i64 b, .int .i64 c, .int .i64 n, .complex .f64 x z] 38)).alloc (.cells #[.bool false, .complex .f64 0 0] 34)).heap.size = w.heap.size + 2 := by simp
  have K2 := Lib.hid hK
  have S2 := Lib.hid hs2
  obtain ⟨r0, r1, r2, r3⟩ := val2 hK.re
  have c10 := hK.gr.c10
  have qn : ∀ (w : World), (binOp .eql 51 (.slice none 0 0) (.slice none 0 0)).run Try.prog w = .ok (.bool true) w := fun w => Lib.run_eql_slice_nil w _ _ _ _ _ _ _ Try.underlying51
  have hlk := map_look0 (Pure.blk hK.pu hmp)
  clear hK hs2 h hmp
  go_enter Try.func19, Try.ntmps19
  go_wp2_with fail
  refine bodyPost_ret (v := .tuple #[vlV zeroVl, .int .i64 8]) (by simp [results, Try.results19, go_sem, zeroVl, r0, r1]) rfl ⟨rfl, ?_⟩
  first | exact K2.out.pu | exact K2.out.out _ _

end Go.Proofs.Ytpllolefmijfdaa
