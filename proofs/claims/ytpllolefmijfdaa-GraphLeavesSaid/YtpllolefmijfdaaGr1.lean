/-
  The contract of op.Check, where an operation may be.
-/
import Derived.Test.YtpllolefmijfdaaGr0
import Derived.Test.YtpllolefmijfdaaGShape
import Derived.Laws.RangeString
import Derived.Laws.RangeAny
namespace Go.Proofs.Ytpllolefmijfdaa
open Go.RowKit

/-- An operation. -/
structure Op20 where
  kind : Int
  a : Int
  b : Int
  c : Int
  n : Int
  x : Nat
  y : Nat
abbrev opV (o : Op20) : Value := .agg #[.int .i64 o.kind, .int .i64 o.a, .int .i64 o.b, .int .i64 o.c, .int .i64 o.n, .complex .f64 o.x o.y]
/-- What a sign names is in its bounds. -/
def okSign (c : Cn) (o : Op20) (s : Nat) : Prop :=
  (s = 97 ∧ 0 ≤ o.a ∧ o.a < c.locals) ∨ (s = 98 ∧ 0 ≤ o.b ∧ o.b < c.locals) ∨ (s = 99 ∧ 0 ≤ o.c ∧ o.c < c.locals) ∨ (s = 103 ∧ 0 ≤ o.n ∧ o.n < c.globals) ∨ s = 107 ∨ s = 110 ∨ s = 122

set_option maxRecDepth 100000 in
set_option maxHeartbeats 2000000 in
theorem check_look (c : Cn) (v : Value) (l : List Sh) (o : Op20) (k : Nat) (hk3 : 3 ≤ k) (hk : k < 19) (ho : o.kind = k) (w : World) (hl : ShsR w w.heap.size v l) (hck : checkI c l = 0) (hn : ∀ (i : Nat) (h : i < (wdN k).size), okSign c o ((wdN k)[i]'h).toNat) (hne : (wdW k).toList.isEmpty = false) :
    Calls Try.prog 32 #[cnV c v, opV o] w fun e w' => e = .returned (.int .i64 0) ∧ Pure w w' := by
  have HL := Lib.hid (fun (w' : World) (hp : Pure w w') => hl.pure hp)
  have HCK := Lib.hid hck
  have HN := Lib.hid hn
  have HO := Lib.hid ho
  obtain ⟨A, cc, hv, _⟩ := hl.1
  subst hv
  have hp1 := (Only.refl (fun _ => False) w).alloc (.cells #[.int .i64 c.frags, .int .i64 c.spine, .int .i64 c.globals, .int .i64 c.threads, .int .i64 c.locals, .int .i64 c.cache, .int .i64 c.stack, .int .i64 c.low, .slice A l.length cc] 25)
  have H1 := Lib.hid (heap_alloc_new w (.cells #[.int .i64 c.frags, .int .i64 c.spine, .int .i64 c.globals, .int .i64 c.threads, .int .i64 c.locals, .int .i64 c.cache, .int .i64 c.stack, .int .i64 c.low, .slice A l.length cc] 25))
  have P1 := Lib.hid hp1
  clear hl hck hn hp1
  go_enter Try.func32, Try.ntmps32
  go_wp2_with fail
  have hO : (w.alloc (.cells #[.int .i64 c.frags, .int .i64 c.spine, .int .i64 c.globals, .int .i64 c.threads, .int .i64 c.locals, .int .i64 c.cache, .int .i64 c.stack, .int .i64 c.low, .slice A l.length cc] 25)).heap.size = w.heap.size + 1 := by simp
  generalize w.alloc (.cells #[.int .i64 c.frags, .int .i64 c.spine, .int .i64 c.globals, .int .i64 c.threads, .int .i64 c.locals, .int .i64 c.cache, .int .i64 c.stack, .int .i64 c.low, .slice A l.length cc] 25) = W1 at *
  have hp2 := (Only.refl (fun _ => False) W1).alloc (.cells #[.int .i64 k, .int .i64 o.a, .int .i64 o.b, .int .i64 o.c, .int .i64 o.n, .complex .f64 o.x o.y] 38)
  have P2 := Lib.hid (Pure.then P1.out hp2)
  have H2 := Lib.hid (heap_alloc_new W1 (.cells #[.int .i64 k, .int .i64 o.a, .int .i64 o.b, .int .i64 o.c, .int .i64 o.n, .complex .f64 o.x o.y] 38))
  have H12 := Lib.hid ((hp2.block _ (Array.getElem?_eq_some_iff.1 H1.out).1 (fun f => f)).trans H1.out)
  clear hp2
  generalize W1.alloc (.cells #[.int .i64 k, .int .i64 o.a, .int .i64 o.b, .int .i64 o.c, .int .i64 o.n, .complex .f64 o.x o.y] 38) = W2 at *
  rw [hO] at H2
  generalize w.heap.size = C at *
  refine (words_any k hk W2).mono ?_
  rintro e w3 ⟨rfl, hp3⟩
  have P3 := Lib.hid (Pure.then P2.out hp3)
  have H3 := Lib.hid ((hp3.block _ (Array.getElem?_eq_some_iff.1 H2.out).1 (fun f => f)).trans H2.out)
  have H13 := Lib.hid ((hp3.block _ (Array.getElem?_eq_some_iff.1 H12.out).1 (fun f => f)).trans H12.out)
  clear hp3
  have c0 : w3.cell? ⟨C, 0, none⟩ = some (.int .i64 c.frags) := by rw [cell_of_row _ _ _ _ _ _ H13.out]; rfl
  have c1 : w3.cell? ⟨C, 1, none⟩ = some (.int .i64 c.spine) := by rw [cell_of_row _ _ _ _ _ _ H13.out]; rfl
  have c2 : w3.cell? ⟨C, 2, none⟩ = some (.int .i64 c.globals) := by rw [cell_of_row _ _ _ _ _ _ H13.out]; rfl
  have c3 : w3.cell? ⟨C, 3, none⟩ = some (.int .i64 c.threads) := by rw [cell_of_row _ _ _ _ _ _ H13.out]; rfl
  have c4 : w3.cell? ⟨C, 4, none⟩ = some (.int .i64 c.locals) := by rw [cell_of_row _ _ _ _ _ _ H13.out]; rfl
  have c5 : w3.cell? ⟨C, 5, none⟩ = some (.int .i64 c.cache) := by rw [cell_of_row _ _ _ _ _ _ H13.out]; rfl
  have c6 : w3.cell? ⟨C, 6, none⟩ = some (.int .i64 c.stack) := by rw [cell_of_row _ _ _ _ _ _ H13.out]; rfl
  have c7 : w3.cell? ⟨C, 7, none⟩ = some (.int .i64 c.low) := by rw [cell_of_row _ _ _ _ _ _ H13.out]; rfl
  have c8 : w3.cell? ⟨C, 8, none⟩ = some (.slice A l.length cc) := by rw [cell_of_row _ _ _ _ _ _ H13.out]; rfl
  go_wp2_with fail
  refine (check_any c (.slice A l.length cc) l _ (HL.out _ P3.out)).mono ?_
  rw [HCK.out]
  rintro e w4 ⟨rfl, hp4⟩
  have P4 := Lib.hid (Pure.then P3.out hp4)
  have H4 := Lib.hid ((hp4.block _ (Array.getElem?_eq_some_iff.1 H3.out).1 (fun f => f)).trans H3.out)
  have H14 := Lib.hid ((hp4.block _ (Array.getElem?_eq_some_iff.1 H13.out).1 (fun f => f)).trans H13.out)
  clear hp4 c0 c1 c2 c3 c4 c5 c6 c7 c8
  go_wp2_with fail
  go_loopw [] (fun wr => ∃ i : Nat, i ≤ (wdN k).size ∧ wr = w4.iter (wdN k) i) (fun wr => (wdN k).size - wr.iterPos w4.heap.size)
  case atStart => exact ⟨0, Nat.zero_le _, rfl⟩
  case round =>
    obtain ⟨i, hi, rfl⟩ := hrel
    by_cases hlt : i < (wdN k).size
    · have hs := HN.out i hlt
      generalize hsg : ((wdN k)[i]'hlt).toNat = sg at hs
      have ha : ((wdN k)[i]'hlt).toNat < 128 := by rw [hsg]; rcases hs with h | h | h | h | h | h | h <;> omega
      have hnx := fun ty => run_next_ascii (P := Try.prog) w4 (wdN k) i ty hlt ha
      rw [hsg] at hnx
      have hpi : Pure w4 (w4.iter (wdN k) (i + 1)) := (Only.refl (fun _ => False) w4).alloc _
      have H5 := Lib.hid ((hpi.block _ (Array.getElem?_eq_some_iff.1 H4.out).1 (fun f => f)).trans H4.out)
      have H15 := Lib.hid ((hpi.block _ (Array.getElem?_eq_some_iff.1 H14.out).1 (fun f => f)).trans H14.out)
      have c2 : (w4.iter (wdN k) (i + 1)).cell? ⟨C, 2, none⟩ = some (.int .i64 c.globals) := by rw [cell_of_row _ _ _ _ _ _ H15.out]; rfl
      have c4 : (w4.iter (wdN k) (i + 1)).cell? ⟨C, 4, none⟩ = some (.int .i64 c.locals) := by rw [cell_of_row _ _ _ _ _ _ H15.out]; rfl
      have o1 : (w4.iter (wdN k) (i + 1)).cell? ⟨C + 1, 1, none⟩ = some (.int .i64 o.a) := by rw [cell_of_row _ _ _ _ _ _ H5.out]; rfl
      have o2 : (w4.iter (wdN k) (i + 1)).cell? ⟨C + 1, 2, none⟩ = some (.int .i64 o.b) := by rw [cell_of_row _ _ _ _ _ _ H5.out]; rfl
      have o3 : (w4.iter (wdN k) (i + 1)).cell? ⟨C + 1, 3, none⟩ = some (.int .i64 o.c) := by rw [cell_of_row _ _ _ _ _ _ H5.out]; rfl
      have o4 : (w4.iter (wdN k) (i + 1)).cell? ⟨C + 1, 4, none⟩ = some (.int .i64 o.n) := by rw [cell_of_row _ _ _ _ _ _ H5.out]; rfl
      clear hsg ha hpi
      rcases hs with ⟨rfl, h0, h1⟩ | ⟨rfl, h0, h1⟩ | ⟨rfl, h0, h1⟩ | ⟨rfl, h0, h1⟩ | rfl | rfl | rfl
      · go_wp2_with fail
        refine (field_any (C + 1) 97 1 _ (by omega)).mono ?_
        rintro e w6 ⟨rfl, rfl⟩
        go_wp2_with fail
        go_roundw
        case rel => exact ⟨i + 1, hlt, rfl⟩
        case measure => simp; omega
      · go_wp2_with fail
        refine (field_any (C + 1) 98 2 _ (by omega)).mono ?_
        rintro e w6 ⟨rfl, rfl⟩
        go_wp2_with fail
        go_roundw
        case rel => exact ⟨i + 1, hlt, rfl⟩
        case measure => simp; omega
      · go_wp2_with fail
        refine (field_any (C + 1) 99 3 _ (by omega)).mono ?_
        rintro e w6 ⟨rfl, rfl⟩
        go_wp2_with fail
        go_roundw
        case rel => exact ⟨i + 1, hlt, rfl⟩
        case measure => simp; omega
      · go_wp2_with fail
        refine (field_any (C + 1) 103 4 _ (by omega)).mono ?_
        rintro e w6 ⟨rfl, rfl⟩
        go_wp2_with fail
        go_roundw
        case rel => exact ⟨i + 1, hlt, rfl⟩
        case measure => simp; omega
      all_goals
        go_wp2_with fail
        go_roundw
        case rel => exact ⟨i + 1, hlt, rfl⟩
        case measure => simp; omega
    · have hnx := fun ty => run_next_end (P := Try.prog) w4 (wdN k) i ty hlt
      have o0 : (w4.iter (wdN k) i).cell? ⟨C + 1, 0, none⟩ = some (.int .i64 k) := Pure.keep ((Only.refl (fun _ => False) w4).alloc _) (by rw [cell_of_row _ _ _ _ _ _ H4.out]; rfl)
      have k1 : ((k : Int) != 1) = true := by simp; omega
      have k2 : ((k : Int) != 2) = true := by simp; omega
      go_wp2_with fail
      go_ret
      refine ⟨?_, P4.out.alloc _⟩
      rfl

/-- The cells of a configuration's block. -/
theorem conf9 {w : World} {C : Nat} {c : Cn} {v : Value} (h : w.heap[C]? = some (.cells #[.int .i64 c.frags, .int .i64 c.spine, .int .i64 c.globals, .int .i64 c.threads, .int .i64 c.locals, .int .i64 c.cache, .int .i64 c.stack, .int .i64 c.low, v] 25 (0, 0))) :
    w.cell? ⟨C, 0, none⟩ = some (.int .i64 c.frags) ∧ w.cell? ⟨C, 1, none⟩ = some (.int .i64 c.spine) ∧ w.cell? ⟨C, 2, none⟩ = some (.int .i64 c.globals) ∧ w.cell? ⟨C, 3, none⟩ = some (.int .i64 c.threads) ∧
    w.cell? ⟨C, 4, none⟩ = some (.int .i64 c.locals) ∧ w.cell? ⟨C, 5, none⟩ = some (.int .i64 c.cache) ∧ w.cell? ⟨C, 6, none⟩ = some (.int .i64 c.stack) ∧ w.cell? ⟨C, 7, none⟩ = some (.int .i64 c.low) ∧ w.cell? ⟨C, 8, none⟩ = some v := by
  refine ⟨?_, ?_, ?_, ?_, ?_, ?_, ?_, ?_, ?_⟩ <;> (rw [cell_of_row w C _ _ _ _ h]; rfl)
/-- The cells of an operation's block. -/
theorem op6 {w : World} {C : Nat} {k a b c n : Int} {x y : Nat} (h : w.heap[C]? = some (.cells #[.int .i64 k, .int .i64 a, .int .i64 b, .int .i64 c, .int .i64 n, .complex .f64 x y] 38 (0, 0))) :
    w.cell? ⟨C, 0, none⟩ = some (.int .i64 k) ∧ w.cell? ⟨C, 1, none⟩ = some (.int .i64 a) ∧ w.cell? ⟨C, 2, none⟩ = some (.int .i64 b) ∧ w.cell? ⟨C, 3, none⟩ = some (.int .i64 c) ∧
    w.cell? ⟨C, 4, none⟩ = some (.int .i64 n) ∧ w.cell? ⟨C, 5, none⟩ = some (.complex .f64 x y) := by
  refine ⟨?_, ?_, ?_, ?_, ?_, ?_⟩ <;> (rw [cell_of_row w C _ _ _ _ h]; rfl)
theorem Pure.blk {w w' : World} {b : Nat} {o : Obj} (h : Pure w w') (hb : w.heap[b]? = some o) : w'.heap[b]? = some o := (h.block b (Array.getElem?_eq_some_iff.1 hb).1 (fun f => f)).trans hb
theorem iter_pure (w : World) (s : ByteArray) (i : Nat) : Pure w (w.iter s i) := (Only.refl _ w).alloc _

/-- How many fragments an operation of kind 1 or 2 asks for. -/
theorem osize_any (a : Bool) (A : Option Addr) (m c : Nat) (o : Op20) (w : World) (hm : m ≤ 9223372036854775807) :
    Calls Try.prog 48 #[.agg #[.bool a, .slice A m c], opV o] w fun e w' => e = .returned (.int .i64 (sizeI a m (if o.kind = 2 then o.n else 0))) ∧ Pure w w' := by
  by_cases hk : o.kind = 2
  · have hk' : (o.kind == 2) = true := by rw [hk]; rfl
    rw [if_pos hk]
    clear hk
    go_enter Try.func48, Try.ntmps48
    go_wp2_with fail
    refine (size_any a A m c o.n _ hm).mono ?_
    rintro e w2 ⟨rfl, hp2⟩
    have P2 := Lib.hid hp2
    clear hp2
    go_wp2_with fail
    go_ret
    exact ⟨rfl, Pure.then (((Only.refl _ _).alloc _).alloc _) P2.out⟩
  · have hk' : (o.kind == 2) = false := beq_eq_false_iff_ne.2 hk
    rw [if_neg hk]
    clear hk
    go_enter Try.func48, Try.ntmps48
    go_wp2_with fail
    refine (size_any a A m c 0 _ hm).mono ?_
    rintro e w2 ⟨rfl, hp2⟩
    have P2 := Lib.hid hp2
    clear hp2
    go_wp2_with fail
    go_ret
    exact ⟨rfl, Pure.then (((Only.refl _ _).alloc _).alloc _) P2.out⟩

theorem osize_z (a : Bool) (A : Option Addr) (m c : Nat) (o : Op20) (z : Int) (w : World) (hm : m ≤ 9223372036854775807) (hz : sizeI a m (if o.kind = 2 then o.n else 0) = z) :
    Calls Try.prog 48 #[.agg #[.bool a, .slice A m c], opV o] w fun e w' => e = .returned (.int .i64 z) ∧ Pure w w' := hz ▸ osize_any a A m c o w hm
theorem spine_z (a : Bool) (A : Option Addr) (n c : Nat) (k z : Int) (w : World) (hn : n ≤ 9223372036854775807) (hz : spineI a n k = z) :
    Calls Try.prog 15 #[.agg #[.bool a, .slice A n c], .int .i64 k] w fun e w' => e = .returned (.int .i64 z) ∧ Pure w w' := hz ▸ spine_any a A n c k w hn
/-- What op.Check's last test reads. -/
def CkR (w : World) (C X : Nat) (bc bo bs : Obj) (w' : World) : Prop := Pure w w' ∧ w'.heap[C]? = some bc ∧ w'.heap[C + 1]? = some bo ∧ w'.heap[X]? = some bs
theorem CkR.keep {w : World} {C X : Nat} {bc bo bs : Obj} {a b : World} (h : CkR w C X bc bo bs a) (k : Pure a b) : CkR w C X bc bo bs b := ⟨h.1.then k, k.blk h.2.1, k.blk h.2.2.1, k.blk h.2.2.2⟩

set_option maxRecDepth 100000 in
set_option maxHeartbeats 2000000 in
theorem check_make (c : Cn) (v : Value) (l : List Sh) (o : Op20) (k : Nat) (hk3 : k = 1 ∨ k = 2) (ho : o.kind = k) (w : World) (hl : ShsR w w.heap.size v l) (hck : checkI c l = 0) (hn : ∀ (i : Nat) (h : i < (wdN k).size), okSign c o ((wdN k)[i]'h).toNat) (hne : (wdW k).toList.isEmpty = false) (s : Sh) (bn : Nat) (hs : l[bn]? = some s) (hb : o.b = bn) (hx : s.bs.length ≤ 1000000) (ha : s.a = (k == 2)) (hz0 : 0 ≤ sizeI s.a s.bs.length (if k = 2 then o.n else 0)) (hz1 : sizeI s.a s.bs.length (if k = 2 then o.n else 0) ≤ c.frags) (hsp : spineI s.a s.bs.length o.n ≤ c.spine) :
    Calls Try.prog 32 #[cnV c v, opV o] w fun e w' => e = .returned (.int .i64 0) ∧ Pure w w' := by
  have HL := Lib.hid (fun (w' : World) (hp : Pure w w') => hl.pure hp)
  have HCK := Lib.hid hck
  have HN := Lib.hid hn
  have HO := Lib.hid ho
  have hk : k < 19 := by omega
  have HS := Lib.hid hs
  have HB := Lib.hid hb
  have HA := Lib.hid ha
  have HZ0 := Lib.hid hz0
  have HZ1 := Lib.hid hz1
  have HSP := Lib.hid hsp
  clear hs hb ha hz0 hz1 hsp
  obtain ⟨A, cc, hv, _⟩ := hl.1
  subst hv
  have hp1 := (Only.refl (fun _ => False) w).alloc (.cells #[.int .i64 c.frags, .int .i64 c.spine, .int .i64 c.globals, .int .i64 c.threads, .int .i64 c.locals, .int .i64 c.cache, .int .i64 c.stack, .int .i64 c.low, .slice A l.length cc] 25)
  have H1 := Lib.hid (heap_alloc_new w (.cells #[.int .i64 c.frags, .int .i64 c.spine, .int .i64 c.globals, .int .i64 c.threads, .int .i64 c.locals, .int .i64 c.cache, .int .i64 c.stack, .int .i64 c.low, .slice A l.length cc] 25))
  have P1 := Lib.hid hp1
  clear hl hck hn hp1
  go_enter Try.func32, Try.ntmps32
  go_wp2_with fail
  have hO : (w.alloc (.cells #[.int .i64 c.frags, .int .i64 c.spine, .int .i64 c.globals, .int .i64 c.threads, .int .i64 c.locals, .int .i64 c.cache, .int .i64 c.stack, .int .i64 c.low, .slice A l.length cc] 25)).heap.size = w.heap.size + 1 := by simp
  generalize w.alloc (.cells #[.int .i64 c.frags, .int .i64 c.spine, .int .i64 c.globals, .int .i64 c.threads, .int .i64 c.locals, .int .i64 c.cache, .int .i64 c.stack, .int .i64 c.low, .slice A l.length cc] 25) = W1 at *
  have hp2 := (Only.refl (fun _ => False) W1).alloc (.cells #[.int .i64 k, .int .i64 o.a, .int .i64 o.b, .int .i64 o.c, .int .i64 o.n, .complex .f64 o.x o.y] 38)
  have P2 := Lib.hid (Pure.then P1.out hp2)
  have H2 := Lib.hid (heap_alloc_new W1 (.cells #[.int .i64 k, .int .i64 o.a, .int .i64 o.b, .int .i64 o.c, .int .i64 o.n, .complex .f64 o.x o.y] 38))
  have H12 := Lib.hid ((hp2.block _ (Array.getElem?_eq_some_iff.1 H1.out).1 (fun f => f)).trans H1.out)
  clear hp2
  generalize W1.alloc (.cells #[.int .i64 k, .int .i64 o.a, .int .i64 o.b, .int .i64 o.c, .int .i64 o.n, .complex .f64 o.x o.y] 38) = W2 at *
  rw [hO] at H2
  generalize w.heap.size = C at *
  refine (words_any k hk W2).mono ?_
  rintro e w3 ⟨rfl, hp3⟩
  have P3 := Lib.hid (Pure.then P2.out hp3)
  have H3 := Lib.hid ((hp3.block _ (Array.getElem?_eq_some_iff.1 H2.out).1 (fun f => f)).trans H2.out)
  have H13 := Lib.hid ((hp3.block _ (Array.getElem?_eq_some_iff.1 H12.out).1 (fun f => f)).trans H12.out)
  clear hp3
  have c0 : w3.cell? ⟨C, 0, none⟩ = some (.int .i64 c.frags) := by rw [cell_of_row _ _ _ _ _ _ H13.out]; rfl
  have c1 : w3.cell? ⟨C, 1, none⟩ = some (.int .i64 c.spine) := by rw [cell_of_row _ _ _ _ _ _ H13.out]; rfl
  have c2 : w3.cell? ⟨C, 2, none⟩ = some (.int .i64 c.globals) := by rw [cell_of_row _ _ _ _ _ _ H13.out]; rfl
  have c3 : w3.cell? ⟨C, 3, none⟩ = some (.int .i64 c.threads) := by rw [cell_of_row _ _ _ _ _ _ H13.out]; rfl
  have c4 : w3.cell? ⟨C, 4, none⟩ = some (.int .i64 c.locals) := by rw [cell_of_row _ _ _ _ _ _ H13.out]; rfl
  have c5 : w3.cell? ⟨C, 5, none⟩ = some (.int .i64 c.cache) := by rw [cell_of_row _ _ _ _ _ _ H13.out]; rfl
  have c6 : w3.cell? ⟨C, 6, none⟩ = some (.int .i64 c.stack) := by rw [cell_of_row _ _ _ _ _ _ H13.out]; rfl
  have c7 : w3.cell? ⟨C, 7, none⟩ = some (.int .i64 c.low) := by rw [cell_of_row _ _ _ _ _ _ H13.out]; rfl
  have c8 : w3.cell? ⟨C, 8, none⟩ = some (.slice A l.length cc) := by rw [cell_of_row _ _ _ _ _ _ H13.out]; rfl
  go_wp2_with fail
  refine (check_any c (.slice A l.length cc) l _ (HL.out _ P3.out)).mono ?_
  rw [HCK.out]
  rintro e w4 ⟨rfl, hp4⟩
  have P4 := Lib.hid (Pure.then P3.out hp4)
  have H4 := Lib.hid ((hp4.block _ (Array.getElem?_eq_some_iff.1 H3.out).1 (fun f => f)).trans H3.out)
  have H14 := Lib.hid ((hp4.block _ (Array.getElem?_eq_some_iff.1 H13.out).1 (fun f => f)).trans H13.out)
  clear hp4 c0 c1 c2 c3 c4 c5 c6 c7 c8
  go_wp2_with fail
  go_loopw [] (fun wr => ∃ i : Nat, i ≤ (wdN k).size ∧ wr = w4.iter (wdN k) i) (fun wr => (wdN k).size - wr.iterPos w4.heap.size)
  case atStart => exact ⟨0, Nat.zero_le _, rfl⟩
  case round =>
    obtain ⟨i, hi, rfl⟩ := hrel
    by_cases hlt : i < (wdN k).size
    · have hs := HN.out i hlt
      generalize hsg : ((wdN k)[i]'hlt).toNat = sg at hs
      have ha : ((wdN k)[i]'hlt).toNat < 128 := by rw [hsg]; rcases hs with h | h | h | h | h | h | h <;> omega
      have hnx := fun ty => run_next_ascii (P := Try.prog) w4 (wdN k) i ty hlt ha
      rw [hsg] at hnx
      have hpi : Pure w4 (w4.iter (wdN k) (i + 1)) := (Only.refl (fun _ => False) w4).alloc _
      have H5 := Lib.hid ((hpi.block _ (Array.getElem?_eq_some_iff.1 H4.out).1 (fun f => f)).trans H4.out)
      have H15 := Lib.hid ((hpi.block _ (Array.getElem?_eq_some_iff.1 H14.out).1 (fun f => f)).trans H14.out)
      have c2 : (w4.iter (wdN k) (i + 1)).cell? ⟨C, 2, none⟩ = some (.int .i64 c.globals) := by rw [cell_of_row _ _ _ _ _ _ H15.out]; rfl
      have c4 : (w4.iter (wdN k) (i + 1)).cell? ⟨C, 4, none⟩ = some (.int .i64 c.locals) := by rw [cell_of_row _ _ _ _ _ _ H15.out]; rfl
      have o1 : (w4.iter (wdN k) (i + 1)).cell? ⟨C + 1, 1, none⟩ = some (.int .i64 o.a) := by rw [cell_of_row _ _ _ _ _ _ H5.out]; rfl
      have o2 : (w4.iter (wdN k) (i + 1)).cell? ⟨C + 1, 2, none⟩ = some (.int .i64 o.b) := by rw [cell_of_row _ _ _ _ _ _ H5.out]; rfl
      have o3 : (w4.iter (wdN k) (i + 1)).cell? ⟨C + 1, 3, none⟩ = some (.int .i64 o.c) := by rw [cell_of_row _ _ _ _ _ _ H5.out]; rfl
      have o4 : (w4.iter (wdN k) (i + 1)).cell? ⟨C + 1, 4, none⟩ = some (.int .i64 o.n) := by rw [cell_of_row _ _ _ _ _ _ H5.out]; rfl
      clear hsg ha hpi
      rcases hs with ⟨rfl, h0, h1⟩ | ⟨rfl, h0, h1⟩ | ⟨rfl, h0, h1⟩ | ⟨rfl, h0, h1⟩ | rfl | rfl | rfl
      · go_wp2_with fail
        refine (field_any (C + 1) 97 1 _ (by omega)).mono ?_
        rintro e w6 ⟨rfl, rfl⟩
        go_wp2_with fail
        go_roundw
        case rel => exact ⟨i + 1, hlt, rfl⟩
        case measure => simp; omega
      · go_wp2_with fail
        refine (field_any (C + 1) 98 2 _ (by omega)).mono ?_
        rintro e w6 ⟨rfl, rfl⟩
        go_wp2_with fail
        go_roundw
        case rel => exact ⟨i + 1, hlt, rfl⟩
        case measure => simp; omega
      · go_wp2_with fail
        refine (field_any (C + 1) 99 3 _ (by omega)).mono ?_
        rintro e w6 ⟨rfl, rfl⟩
        go_wp2_with fail
        go_roundw
        case rel => exact ⟨i + 1, hlt, rfl⟩
        case measure => simp; omega
      · go_wp2_with fail
        refine (field_any (C + 1) 103 4 _ (by omega)).mono ?_
        rintro e w6 ⟨rfl, rfl⟩
        go_wp2_with fail
        go_roundw
        case rel => exact ⟨i + 1, hlt, rfl⟩
        case measure => simp; omega
      all_goals
        go_wp2_with fail
        go_roundw
        case rel => exact ⟨i + 1, hlt, rfl⟩
        case measure => simp; omega
    · have hnx := fun ty => run_next_end (P := Try.prog) w4 (wdN k) i ty hlt
      have HI := iter_pure w4 (wdN k) i
      have P5 := Lib.hid (Pure.then P4.out HI)
      have H5 := Lib.hid (HI.blk H4.out)
      have H15 := Lib.hid (HI.blk H14.out)
      clear HI HN
      obtain ⟨c0, c1, c2, c3, c4, c5, c6, c7, c8⟩ := conf9 H15.out
      obtain ⟨o0, -, o2, -, -, -⟩ := op6 H5.out
      rw [HB.out] at o2
      rcases hk3 with rfl | rfl
      · have e1 := Lib.hid HA.out
        obtain ⟨sa, sv, sbs⟩ := s
        dsimp only at e1 HA hx HZ0 HZ1 HSP
        obtain rfl := e1.out
        clear e1 HA
        go_wp2_with fail
        refine (shape_in c (.slice A l.length cc) l bn _ _ (HL.out _ P5.out) HS.out hx).mono ?_
        rintro e w6 ⟨A6, d6, rfl, hp6, -, -⟩
        have P6 := Lib.hid (Pure.then P5.out hp6)
        have H6 := Lib.hid (hp6.blk H5.out)
        have H16 := Lib.hid (hp6.blk H15.out)
        clear hp6 c0 c1 c2 c3 c4 c5 c6 c7 c8 o0 o2
        obtain ⟨o0, o1, o2, o3, o4, o5⟩ := op6 H6.out
        obtain ⟨c0, c1, -, -, -, -, -, -, -⟩ := conf9 H16.out
        have hp7 := (Only.refl (fun _ => False) w6).alloc (.cells #[.bool false, .slice A6 sbs.length d6] 46)
        have hS := heap_alloc_new w6 (.cells #[.bool false, .slice A6 sbs.length d6] 46)
        have P7 := Lib.hid (Pure.then P6.out hp7)
        have H7 := Lib.hid (Pure.blk hp7 H6.out)
        have H17 := Lib.hid (Pure.blk hp7 H16.out)
        obtain ⟨p0, p1, p2, p3, p4, p5⟩ := op6 (Pure.blk hp7 H6.out)
        obtain ⟨q0, q1, -, -, -, -, -, -, -⟩ := conf9 (Pure.blk hp7 H16.out)
        have s0 : (w6.alloc (.cells #[.bool false, .slice A6 sbs.length d6] 46)).cell? ⟨w6.heap.size, 0, none⟩ = some (.bool false) := by rw [cell_of_row _ _ _ _ _ _ hS]; rfl
        have s1 : (w6.alloc (.cells #[.bool false, .slice A6 sbs.length d6] 46)).cell? ⟨w6.heap.size, 1, none⟩ = some (.slice A6 sbs.length d6) := by rw [cell_of_row _ _ _ _ _ _ hS]; rfl
        have hck7 : CkR w C w6.heap.size _ _ _ (w6.alloc (.cells #[.bool false, .slice A6 sbs.length d6] 46)) := ⟨P7.out, H17.out, H7.out, hS⟩
        have HCK7 := Lib.hid hck7
        clear hp7 hS hck7
        obtain ⟨z, hz⟩ : ∃ z, sizeI false sbs.length (if ({ o with kind := 1 } : Op20).kind = 2 then o.n else 0) = z := ⟨_, rfl⟩
        obtain ⟨y, hy⟩ : ∃ y, spineI false sbs.length o.n = y := ⟨_, rfl⟩
        have z0 : 0 ≤ z := by have h := HZ0.out; rw [← hz]; exact h
        have z1 : z ≤ c.frags := by have h := HZ1.out; rw [← hz]; exact h
        have y1 : y ≤ c.spine := by have h := HSP.out; rw [← hy]; exact h
        have d0 : decide (c.frags < z) = false := decide_eq_false (by omega)
        have HZ := Lib.hid hz
        have HY := Lib.hid hy
        have hlen : sbs.length ≤ 9223372036854775807 := by omega
        clear hz hy HZ0 HZ1 HSP
        go_wp2_with fail
        refine (osize_z false A6 sbs.length d6 { o with kind := 1 } z _ hlen HZ.out).mono ?_
        rintro e w8 ⟨rfl, hp8⟩
        have HCK8 := Lib.hid (HCK7.out.keep hp8)
        clear hp8 o0 o1 o2 o3 o4 o5 c0 c1 p0 p1 p2 p3 p4 p5 q0 q1 s0 s1
        go_wp2_with fail
        refine region_class (CkR w C w6.heap.size _ _ _) (HCK8.out.keep ((Only.refl _ _).drewN 1)) (by kernel_rfl) (by kernel_rfl) ?_
        intro S f hS hf hmk
        have p := fun s => (op6 (hf s).2.2.1).1
        have p1 := fun s => (op6 (hf s).2.2.1).2.1
        have p2 := fun s => (op6 (hf s).2.2.1).2.2.1
        have p3 := fun s => (op6 (hf s).2.2.1).2.2.2.1
        have p4 := fun s => (op6 (hf s).2.2.1).2.2.2.2.1
        have p5 := fun s => (op6 (hf s).2.2.1).2.2.2.2.2
        have q0 := fun s => (conf9 (hf s).2.1).1
        have q1 := fun s => (conf9 (hf s).2.1).2.1
        have s0 : ∀ s, (f s).cell? ⟨w6.heap.size, 0, none⟩ = some (.bool false) := fun s => by rw [cell_of_row _ _ _ _ _ _ (hf s).2.2.2]; rfl
        have s1 : ∀ s, (f s).cell? ⟨w6.heap.size, 1, none⟩ = some (.slice A6 sbs.length d6) := fun s => by rw [cell_of_row _ _ _ _ _ _ (hf s).2.2.2]; rfl
        have HF := Lib.hid hf
        have HM := Lib.hid hmk
        clear hf hmk
        repeat (go_big_quiet_step ((first | (go_at_call 48; exact class_call HM.out (HF.out _) (fun _ hd hp => hd.keep hp) (osize_z false A6 sbs.length d6 { o with kind := 1 } z _ hlen HZ.out)) | (go_at_call 15; exact class_call HM.out (HF.out _) (fun _ hd hp => hd.keep hp) (spine_z false A6 sbs.length d6 o.n y _ hlen HY.out)))))
        clear p p1 p2 p3 p4 p5 q0 q1 s0 s1
        refine wpQuiet_nil ?_
        rintro w9 ⟨s9, e9⟩
        have D9 := Lib.hid (HF.out s9).1
        rw [← e9] at D9
        clear e9 HF HM hS s9
        go_wp2_with fail
        go_ret
        exact ⟨rfl, D9.out⟩
      · have e1 := Lib.hid HA.out
        obtain ⟨sa, sv, sbs⟩ := s
        dsimp only at e1 HA hx HZ0 HZ1 HSP
        obtain rfl := e1.out
        clear e1 HA
        go_wp2_with fail
        refine (shape_in c (.slice A l.length cc) l bn _ _ (HL.out _ P5.out) HS.out hx).mono ?_
        rintro e w6 ⟨A6, d6, rfl, hp6, -, -⟩
        have P6 := Lib.hid (Pure.then P5.out hp6)
        have H6 := Lib.hid (hp6.blk H5.out)
        have H16 := Lib.hid (hp6.blk H15.out)
        clear hp6 c0 c1 c2 c3 c4 c5 c6 c7 c8 o0 o2
        obtain ⟨o0, o1, o2, o3, o4, o5⟩ := op6 H6.out
        obtain ⟨c0, c1, -, -, -, -, -, -, -⟩ := conf9 H16.out
        have hp7 := (Only.refl (fun _ => False) w6).alloc (.cells #[.bool true, .slice A6 sbs.length d6] 46)
        have hS := heap_alloc_new w6 (.cells #[.bool true, .slice A6 sbs.length d6] 46)
        have P7 := Lib.hid (Pure.then P6.out hp7)
        have H7 := Lib.hid (Pure.blk hp7 H6.out)
        have H17 := Lib.hid (Pure.blk hp7 H16.out)
        obtain ⟨p0, p1, p2, p3, p4, p5⟩ := op6 (Pure.blk hp7 H6.out)
        obtain ⟨q0, q1, -, -, -, -, -, -, -⟩ := conf9 (Pure.blk hp7 H16.out)
        have s0 : (w6.alloc (.cells #[.bool true, .slice A6 sbs.length d6] 46)).cell? ⟨w6.heap.size, 0, none⟩ = some (.bool true) := by rw [cell_of_row _ _ _ _ _ _ hS]; rfl
        have s1 : (w6.alloc (.cells #[.bool true, .slice A6 sbs.length d6] 46)).cell? ⟨w6.heap.size, 1, none⟩ = some (.slice A6 sbs.length d6) := by rw [cell_of_row _ _ _ _ _ _ hS]; rfl
        have hck7 : CkR w C w6.heap.size _ _ _ (w6.alloc (.cells #[.bool true, .slice A6 sbs.length d6] 46)) := ⟨P7.out, H17.out, H7.out, hS⟩
        have HCK7 := Lib.hid hck7
        clear hp7 hS hck7
        obtain ⟨z, hz⟩ : ∃ z, sizeI true sbs.length (if ({ o with kind := 2 } : Op20).kind = 2 then o.n else 0) = z := ⟨_, rfl⟩
        obtain ⟨y, hy⟩ : ∃ y, spineI true sbs.length o.n = y := ⟨_, rfl⟩
        have z0 : 0 ≤ z := by have h := HZ0.out; rw [← hz]; exact h
        have z1 : z ≤ c.frags := by have h := HZ1.out; rw [← hz]; exact h
        have y1 : y ≤ c.spine := by have h := HSP.out; rw [← hy]; exact h
        have d0 : decide (c.frags < z) = false := decide_eq_false (by omega)
        have HZ := Lib.hid hz
        have HY := Lib.hid hy
        have hlen : sbs.length ≤ 9223372036854775807 := by omega
        clear hz hy HZ0 HZ1 HSP
        go_wp2_with fail
        refine (osize_z true A6 sbs.length d6 { o with kind := 2 } z _ hlen HZ.out).mono ?_
        rintro e w8 ⟨rfl, hp8⟩
        have HCK8 := Lib.hid (HCK7.out.keep hp8)
        clear hp8 o0 o1 o2 o3 o4 o5 c0 c1 p0 p1 p2 p3 p4 p5 q0 q1 s0 s1
        go_wp2_with fail
        refine region_class (CkR w C w6.heap.size _ _ _) (HCK8.out.keep ((Only.refl _ _).drewN 1)) (by kernel_rfl) (by kernel_rfl) ?_
        intro S f hS hf hmk
        have p := fun s => (op6 (hf s).2.2.1).1
        have p1 := fun s => (op6 (hf s).2.2.1).2.1
        have p2 := fun s => (op6 (hf s).2.2.1).2.2.1
        have p3 := fun s => (op6 (hf s).2.2.1).2.2.2.1
        have p4 := fun s => (op6 (hf s).2.2.1).2.2.2.2.1
        have p5 := fun s => (op6 (hf s).2.2.1).2.2.2.2.2
        have q0 := fun s => (conf9 (hf s).2.1).1
        have q1 := fun s => (conf9 (hf s).2.1).2.1
        have s0 : ∀ s, (f s).cell? ⟨w6.heap.size, 0, none⟩ = some (.bool true) := fun s => by rw [cell_of_row _ _ _ _ _ _ (hf s).2.2.2]; rfl
        have s1 : ∀ s, (f s).cell? ⟨w6.heap.size, 1, none⟩ = some (.slice A6 sbs.length d6) := fun s => by rw [cell_of_row _ _ _ _ _ _ (hf s).2.2.2]; rfl
        have HF := Lib.hid hf
        have HM := Lib.hid hmk
        clear hf hmk
        repeat (go_big_quiet_step ((first | (go_at_call 48; exact class_call HM.out (HF.out _) (fun _ hd hp => hd.keep hp) (osize_z true A6 sbs.length d6 { o with kind := 2 } z _ hlen HZ.out)) | (go_at_call 15; exact class_call HM.out (HF.out _) (fun _ hd hp => hd.keep hp) (spine_z true A6 sbs.length d6 o.n y _ hlen HY.out)))))
        clear p p1 p2 p3 p4 p5 q0 q1 s0 s1
        refine wpQuiet_nil ?_
        rintro w9 ⟨s9, e9⟩
        have D9 := Lib.hid (HF.out s9).1
        rw [← e9] at D9
        clear e9 HF HM hS s9
        go_wp2_with fail
        go_ret
        exact ⟨rfl, D9.out⟩

end Go.Proofs.Ytpllolefmijfdaa
