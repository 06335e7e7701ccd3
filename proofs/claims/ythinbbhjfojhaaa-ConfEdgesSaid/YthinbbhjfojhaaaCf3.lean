/-
  ConfShapes: a shape is told by its number, others are none; without shapes, or with too many, a configuration may not be. For every input.
-/
import Derived.Test.YthinbbhjfojhaaaCfCopy
import Derived.Test.YthinbbhjfojhaaaCf2
namespace Go.Proofs.Ythinbbhjfojhaaa.confShapes
open Go.RowKit Go.ChangeShapes Go.WideShapes Go.ChangeAt
open Go.Proofs.Ythinbbhjfojhaaa.confSmall (Row Row.new Row.keep Row.cells Row.keepSet first_any)
open Go.Proofs.Ythinbbhjfojhaaa.confStocks (check_cases check_zero)

theorem check_len {c : Cn} {l m : List Sh} (h : checkI c l = 0) (hm : withinB m.length 1 8 = false) : checkI c m = 4 := by
  obtain ⟨a, b, _⟩ := check_zero h
  rw [checkI, if_neg (by rw [a]; simp), if_neg b, if_pos (by rw [hm]; rfl)]

/-- A configuration's slice of shapes is stored anew. -/
theorem row_setShapes {w : World} {X : Nat} {c : Cn} {v u : Value} {a : World} (h : Row w X c v a) : Row w X c u (a.setCell ⟨X, 8, none⟩ u) := by
  refine ⟨h.1, ?_, h.2.2.setCell (fun h' => Nat.not_lt.2 h.1 h') u⟩
  simp [World.setCell, Array.getElem?_modify, h.2.1]
theorem row_only {w : World} {X : Nat} {c : Cn} {v : Value} {S : Nat → Prop} {a b : World} (h : Row w X c v a) (k : Only S a b) (hX : ¬ S X) (hw : ∀ q, q < w.heap.size → ¬ S q) : Row w X c v b :=
  ⟨h.1, (k.block X (Array.getElem?_eq_some_iff.1 h.2.1).1 hX).trans h.2.1, h.2.2.trans k (fun i hi e => hw i hi e)⟩

/-- While the copy in block E is given more shapes: it has n of them; another one in block D has none. -/
structure GrowR (w : World) (E D : Nat) (c : Cn) (n : Nat) (v : Value) (mm : List Sh) (wr : World) : Prop where
  e : Row w E c v wr
  dd : Row w D c (.slice none 0 0) wr
  own : wr.ownsRow w.heap.size 32 2 v n (shCells mm)
  sl : ∀ s ∈ mm, SlG wr wr.heap.size s.v (bools s.bs)
  apart : ∀ s ∈ mm, ∀ q, s.v.ownBlock = some q → v.ownBlock ≠ some q ∧ q ≠ E ∧ q < wr.heap.size
  ne : ∀ q, v.ownBlock = some q → q ≠ E ∧ q ≠ D
  de : D ≠ E

theorem GrowR.pure {w a b : World} {E D n : Nat} {c : Cn} {v : Value} {mm : List Sh} (h : GrowR w E D c n v mm a) (p : Pure a b) : GrowR w E D c n v mm b :=
  ⟨h.e.keep p, h.dd.keep p, p.own h.own (fun _ _ f => f), fun s hs => (h.sl s hs).pure p, fun s hs q hq => ⟨(h.apart s hs q hq).1, (h.apart s hs q hq).2.1, Nat.lt_of_lt_of_le (h.apart s hs q hq).2.2 p.size⟩, h.ne, h.de⟩

theorem GrowR.step {w a a1 a2 : World} {E D n : Nat} {c : Cn} {v v2 : Value} {mm : List Sh} (h : GrowR w E D c n v mm a) (p : Pure a a1)
    (ho : a2.ownsRow w.heap.size 32 2 v2 (n + 1) (shCells mm ++ [.bool false, .slice none 0 0])) (hg : a1.grownBy a2 v.ownBlock) (hat : v2.ownBlock = v.ownBlock ∨ v2.ownBlock = some a1.heap.size) :
    GrowR w E D c (n + 1) v2 (mm ++ [⟨false, .slice none 0 0, []⟩]) (a2.setCell ⟨E, 8, none⟩ v2) := by
  have h1 := h.pure p
  have hO : Only (fun q => v.ownBlock = some q) a1 a2 := (Only.refl _ a1).grown hg (fun _ _ e => e)
  have hE : E < a1.heap.size := (Array.getElem?_eq_some_iff.1 h1.e.2.1).1
  have hD : D < a1.heap.size := (Array.getElem?_eq_some_iff.1 h1.dd.2.1).1
  have hw : ∀ q, q < w.heap.size → ¬ v.ownBlock = some q := fun q hq e => by have := (h.own.lt q e).1; omega
  have e2 : Row w E c v a2 := row_only h1.e hO (fun e => (h.ne E e).1 rfl) hw
  have d2 : Row w D c (.slice none 0 0) a2 := row_only h1.dd hO (fun e => (h.ne D e).2 rfl) hw
  have ne2 : ∀ q, v2.ownBlock = some q → q ≠ E ∧ q ≠ D := by
    intro q hq
    rcases hat with h' | h'
    · exact h.ne q (h'.symm.trans hq)
    · rw [h'] at hq; injection hq with hq; omega
  have hS : Only (fun q => q = E) a2 (a2.setCell ⟨E, 8, none⟩ v2) := (Only.refl (fun q => q = E) a2).setCell (p := ⟨E, 8, none⟩) (fun _ => rfl) _
  have hwE := h.e.1
  refine ⟨row_setShapes e2, row_only d2 hS (fun e => h.de e) (fun q hq e => by subst e; omega), ?_, ?_, ?_, ne2, h.de⟩
  · rw [shCells_append]
    exact hS.own ho (fun q hq e => (ne2 q hq).1 e)
  · intro s hs
    rcases List.mem_append.1 hs with hs | hs
    · exact ((h1.sl s hs).only hO (fun q hq => (h1.apart s hs q hq).1)).only hS (fun q hq => (h1.apart s hs q hq).2.1)
    · simp at hs; subst hs; exact SlG.nil _ _
  · intro s hs q hq
    rcases List.mem_append.1 hs with hs | hs
    · have ha := h1.apart s hs q hq
      refine ⟨fun e => ?_, ha.2.1, by simpa [World.setCell] using Nat.lt_of_lt_of_le ha.2.2 hO.size⟩
      rcases hat with h' | h'
      · exact ha.1 (h'.symm.trans e)
      · rw [h'] at e; injection e with e; omega
    · simp at hs; subst hs; simp [Value.ownBlock] at hq

set_option maxRecDepth 100000 in
set_option maxHeartbeats 2000000 in
theorem main (c : Cn) (v : Value) (l : List Sh) (w : World) (hl : ShsR w w.heap.size v l) :
    Calls Try.prog 7 #[cnV c v] w fun e w' => e = .returned (.bool true) ∧ Pure w w' := by
  obtain ⟨i0, hi0, hz0, hz1, hz2⟩ := info_parts shape_info
  have HL := Lib.hid (fun (w' : World) (hp : Pure w w') => hl.pure hp)
  have HL0 := Lib.hid hl
  obtain ⟨A, cc, rfl⟩ : ∃ A cc, v = .slice A l.length cc := by
    obtain ⟨⟨A, cc, rfl, _⟩, _⟩ := hl
    exact ⟨A, cc, rfl⟩
  clear hl
  go_enter Try.func7, Try.ntmps7
  go_wp2_with fail
  have hr := Row.new w c (.slice A l.length cc)
  generalize w.alloc _ = W at hr ⊢
  generalize hXe : w.heap.size = X at hr ⊢
  have HXE := Lib.hid hXe
  have R := Lib.hid hr
  clear hr hXe
  refine (first_any _).mono ?_
  rintro e w1 ⟨rfl, hp1⟩
  have R1 := Lib.hid (R.out.keep hp1)
  clear hp1
  obtain ⟨c0, c1, c2, c3, c4, c5, c6, c7, c8, _⟩ := R1.out.cells
  go_wp2_with fail
  refine (few_tells c _ l _ (HL.out _ R1.out.2.2)).mono ?_
  rintro e w2 ⟨⟨b, rfl, hfew⟩, hp2⟩
  have FEW := Lib.hid hfew
  have R2 := Lib.hid (R1.out.keep hp2)
  clear hp2 hfew c0 c1 c2 c3 c4 c5 c6 c7 c8
  obtain ⟨c0, c1, c2, c3, c4, c5, c6, c7, c8, _⟩ := R2.out.cells
  cases b with
  | false =>
    go_wp2_with fail
    refine (first_any _).mono ?_
    rintro e w8 ⟨rfl, hp8⟩
    have P8 := Lib.hid (R2.out.2.2.then hp8)
    clear hp8
    go_wp2
    go_ret
    exact ⟨rfl, P8.out⟩
  | true =>
    obtain ⟨hn, hbs⟩ := FEW.out rfl
    have HBS := Lib.hid hbs
    clear hbs
    go_wp2_with fail
    refine (check_any c _ l _ (HL.out _ R2.out.2.2)).mono ?_
    rcases check_cases c l with hk | hk | hk
    case inr.inl | inr.inr =>
      rw [hk]
      rintro e w3 ⟨rfl, hp3⟩
      have R3 := Lib.hid (R2.out.keep hp3)
      clear hp3
      go_wp2_with fail
      refine (first_any _).mono ?_
      rintro e w8 ⟨rfl, hp8⟩
      have P8 := Lib.hid (R3.out.2.2.then hp8)
      clear hp8
      go_wp2
      go_ret
      exact ⟨rfl, P8.out⟩
    have HK := Lib.hid hk
    rw [hk]
    rintro e w3 ⟨rfl, hp3⟩
    have R3 := Lib.hid (R2.out.keep hp3)
    clear hp3 hk c0 c1 c2 c3 c4 c5 c6 c7 c8
    go_wp2_with fail
    go_loopw [3] (fun i wr => ∃ k : Int, -1 ≤ k ∧ k ≤ (l.length : Int) + 1 ∧ i = .int .i64 k ∧ Row w X c (.slice A l.length cc) wr) (fun i _ => ((l.length : Int) + 1 - intOf i).toNat)
    case atStart => exact ⟨-1, by omega, by omega, rfl, R3.out⟩
    case round =>
      obtain ⟨k, hk0, hk1, rfl, hrel⟩ := hrel
      have RR := Lib.hid hrel
      obtain ⟨c0, c1, c2, c3, c4, c5, c6, c7, c8, _⟩ := hrel.cells
      clear hrel
      rcases (by omega : k = -1 ∨ (0 ≤ k ∧ k < l.length) ∨ k = l.length ∨ k = (l.length : Int) + 1) with h | ⟨h0, h1⟩ | h | h
      · subst h
        go_wp2_with fail
        refine (shape_out c A l.length cc (-1) _ (.inl (by omega))).mono ?_
        rintro e w4 ⟨rfl, hp4⟩
        have R4 := Lib.hid ((RR.out.keep hp4).keep ((Only.refl _ _).alloc (.cells #[.bool false, .slice none 0 0] 32)))
        obtain ⟨d0, d1, d2, d3, d4, d5, d6, d7, d8, _⟩ := R4.out.cells
        clear hp4 c0 c1 c2 c3 c4 c5 c6 c7 c8 d0 d1 d2 d3 d4 d5 d6 d7
        go_wp2_with fail
        go_quiet (fail)
        go_wp2_with fail
        go_roundw
        case rel => exact ⟨0, by omega, by omega, by first | rfl | simp, R4.out.keep ((Only.refl _ _).drewN _)⟩
        case measure => simp [intOf]; omega
      · obtain ⟨j, rfl⟩ := Int.eq_ofNat_of_zero_le h0
        have hlt : j < l.length := by omega
        obtain ⟨⟨_, _, he, _, _, h3⟩, h4⟩ := HL0.out
        injection he with he1 he2 he3
        subst he1; subst he3
        obtain ⟨b, off, hA, hb, hc⟩ := h3 (by omega)
        obtain ⟨s, hs⟩ : ∃ s, l[j]? = some s := ⟨l[j], List.getElem?_eq_getElem hlt⟩
        obtain ⟨g1, g2⟩ := hc j s hs
        obtain ⟨B, d, hv, hd1, hd2, _⟩ := h4 s (List.mem_of_getElem? hs)
        have hbs := HBS.out s (List.mem_of_getElem? hs)
        rw [hv, bools_length] at g2
        rw [bools_length] at hd1
        have HA := Lib.hid hA
        have HS := Lib.hid hs
        clear h3 h4 hc hs hv
        have hsh := shape_in c (.slice A l.length cc) l j s wr (HL.out _ RR.out.2.2) HS.out (by omega)
        have HSH := Lib.hid hsh
        clear hsh hA
        go_wp2_with fail
        refine HSH.out.mono ?_
        rintro e w4 ⟨A4, d4, rfl, hp4⟩
        have R4 := Lib.hid ((RR.out.keep hp4).keep ((Only.refl _ _).alloc (.cells #[.bool s.a, .slice A4 s.bs.length d4] 32)))
        obtain ⟨e0, e1, e2, e3, e4, e5, e6, e7, e8, _⟩ := R4.out.cells
        have g1' := R4.out.2.2.keep g1
        have g2' := R4.out.2.2.keep g2
        rw [HA.out] at e8
        clear hp4 c0 c1 c2 c3 c4 c5 c6 c7 c8 e0 e1 e2 e3 e4 e5 e6 e7 g1 g2
        go_wp2_with fail
        go_quiet (fail)
        go_wp2_with fail
        go_roundw
        case rel => exact ⟨(j : Int) + 1, by omega, by omega, by first | rfl | simp, R4.out.keep ((Only.refl _ _).drewN _)⟩
        case measure => simp [intOf]; omega
      · subst h
        go_wp2_with fail
        refine (shape_out c A l.length cc (l.length : Int) _ (.inr (by omega))).mono ?_
        rintro e w4 ⟨rfl, hp4⟩
        have R4 := Lib.hid ((RR.out.keep hp4).keep ((Only.refl _ _).alloc (.cells #[.bool false, .slice none 0 0] 32)))
        obtain ⟨d0, d1, d2, d3, d4, d5, d6, d7, d8, _⟩ := R4.out.cells
        clear hp4 c0 c1 c2 c3 c4 c5 c6 c7 c8 d0 d1 d2 d3 d4 d5 d6 d7
        go_wp2_with fail
        go_quiet (fail)
        go_wp2_with fail
        go_roundw
        case rel => exact ⟨(l.length : Int) + 1, by omega, by omega, by first | rfl | simp, R4.out.keep ((Only.refl _ _).drewN _)⟩
        case measure => simp [intOf]
      · subst h
        go_wp2_with fail
        refine (copy_any c _ l _ (HL.out _ RR.out.2.2) (by omega) (fun s hs => by have := HBS.out s hs; omega)).mono ?_
        rintro e w5 ⟨A5, d5, m5, rfl, hp5, -, -, -, -⟩
        have R5 := Lib.hid (RR.out.keep hp5)
        have RD := Lib.hid (Row.new w5 c (.slice none 0 0))
        have R6 := Lib.hid (R5.out.keep ((Only.refl _ _).alloc (.cells #[.int .i64 c.frags, .int .i64 c.spine, .int .i64 c.globals, .int .i64 c.threads, .int .i64 c.locals, .int .i64 c.cache, .int .i64 c.stack, .int .i64 c.low, .slice none 0 0] 24)))
        obtain ⟨e0, e1, e2, e3, e4, e5, e6, e7, e8, _⟩ := R6.out.cells
        clear hp5 c0 c1 c2 c3 c4 c5 c6 c7 c8
        go_wp2_with fail
        generalize hW6 : w5.alloc (.cells #[.int .i64 c.frags, .int .i64 c.spine, .int .i64 c.globals, .int .i64 c.threads, .int .i64 c.locals, .int .i64 c.cache, .int .i64 c.stack, .int .i64 c.low, .slice none 0 0] 24) = W6 at *
        have HD5 := Lib.hid (show w.heap.size ≤ w5.heap.size from R5.out.2.2.size)
        generalize w5.heap.size = D at RD HD5 ⊢
        clear e0 e1 e2 e3 e4 e5 e6 e7 e8 hW6
        refine (copy_any c _ l _ (HL.out _ R6.out.2.2) (by omega) (fun s hs => by have := HBS.out s hs; omega)).mono ?_
        rintro e w7 ⟨A7, d7, m7, rfl, hp7, ho7, hs7, ha7, hl7⟩
        have hl8 : l.length ≤ 8 := by
          have := (check_zero HK.out).2.2
          simp only [withinB, Bool.and_eq_true, decide_eq_true_eq] at this
          omega
        have hDW : D < W6.heap.size := (Array.getElem?_eq_some_iff.1 RD.out.2.1).1
        have hR7 := R6.out.keep hp7
        have hD7 : Row w D c (.slice none 0 0) w7 := ⟨HD5.out, (hp7.block D hDW (fun f => f)).trans RD.out.2.1, hR7.2.2⟩
        have hE7 := Row.new w7 c (.slice A7 l.length d7)
        have hp8 := (Only.refl (fun _ => False) w7).alloc (.cells #[.int .i64 c.frags, .int .i64 c.spine, .int .i64 c.globals, .int .i64 c.threads, .int .i64 c.locals, .int .i64 c.cache, .int .i64 c.stack, .int .i64 c.low, .slice A7 l.length d7] 24)
        have hg : GrowR w w7.heap.size D c l.length (.slice A7 l.length d7) m7 (w7.alloc (.cells #[.int .i64 c.frags, .int .i64 c.spine, .int .i64 c.globals, .int .i64 c.threads, .int .i64 c.locals, .int .i64 c.cache, .int .i64 c.stack, .int .i64 c.low, .slice A7 l.length d7] 24)) := by
          have hz := hp7.size
          have hz6 := R6.out.2.2.size
          refine ⟨⟨by omega, hE7.2.1, hR7.2.2.then hp8⟩, hD7.keep hp8, own_mono (hp8.own ho7 (fun _ _ f => f)) (by omega), fun s hs => (hs7 s hs).pure hp8, fun s hs q hq => ?_, fun q hq => ?_, by omega⟩
          · have := ha7 s hs q hq
            exact ⟨this.1, by omega, by simp; omega⟩
          · have := ho7.lt q hq
            omega
        have HG := Lib.hid hg
        clear hg hp8 hE7 hD7 hR7 hp7 ho7 hs7 ha7 hl7 hDW
        go_wp2_with fail
        generalize w7.alloc (.cells #[.int .i64 c.frags, .int .i64 c.spine, .int .i64 c.globals, .int .i64 c.threads, .int .i64 c.locals, .int .i64 c.cache, .int .i64 c.stack, .int .i64 c.low, .slice A7 l.length d7] 24) = W8 at *
        generalize w7.heap.size = E at HG ⊢
        go_loopw [75] (fun _ wr => ∃ (n : Nat) (A : Option Addr) (d : Nat) (mm : List Sh), n ≤ 9 ∧ GrowR w E D c n (.slice A n d) mm wr) (fun _ wr => match wr.cell? ⟨E, 8, none⟩ with | some (.slice _ n _) => 9 - n | _ => 0)
        case atStart => exact ⟨_, _, _, _, by omega, HG.out⟩
        case round =>
          obtain ⟨n, A9, d9, mm, hn9, hrel⟩ := hrel
          have GR := Lib.hid hrel
          obtain ⟨c0, c1, c2, c3, c4, c5, c6, c7, c8, cf⟩ := hrel.e.cells
          have cf8 := cf 8
          clear hrel cf
          by_cases hlt : n ≤ 8
          · have hsz1 : w.heap.size ≤ (wr.alloc (.cells #[.bool false, .slice none 0 0] 32)).heap.size := by have := GR.out.e.2.2.size; simp; omega
            go_wp2_with (at_builtin; refine wpList_app _ rfl (.tmp 80) (.tmp 82) _ rfl w.heap.size 32 i0 _ 2 32 Try.underlying22 hi0 hz0 hz1 hz2 rfl (by omega) (.slice A9 n d9) n (shCells mm) rfl (World.ownsRow.alloc (w := wr) GR.out.own _) _ 1 1 [.bool false, .slice none 0 0] rfl (Src.row wr _ #[.bool false, .slice none 0 0] 2 1 _ rfl rfl) (by simp [Value.oneCell']) (by simp only [maxLen]; omega) (by omega) hsz1 ?_; intro v2 w2 hown2 hg2 hat2; obtain ⟨A2, d2, rfl⟩ := own_form hown2; have hst := GR.out.step ((Only.refl _ wr).alloc _) hown2 hg2 hat2; have hE2 := row_only (GR.out.pure ((Only.refl _ wr).alloc (.cells #[.bool false, .slice none 0 0] 32))).e ((Only.refl (fun q => (Value.slice A9 n d9).ownBlock = some q) _).grown hg2 (fun _ _ e => e)) (fun e => (GR.out.ne E e).1 rfl) (fun q hq e => by have := (GR.out.own.lt q e).1; omega); have x8 := hE2.cells.2.2.2.2.2.2.2.2.1; have xf := hE2.cells.2.2.2.2.2.2.2.2.2 8; have ST := Lib.hid hst; clear hown2 hg2 hat2 hst hE2)
            go_roundw
            case rel => exact ⟨n + 1, A2, d2, _, by omega, ST.out⟩
            case measure =>
              have z8 := ST.out.e.cells.2.2.2.2.2.2.2.2.1
              rw [z8, c8]
              simp
              omega
          · obtain rfl : n = 9 := by omega
            obtain ⟨y0, y1, y2, y3, y4, y5, y6, y7, y8, _⟩ := GR.out.dd.cells
            have hm9 : mm.length = 9 := by have := GR.out.own.1; rw [shCells_length] at this; omega
            go_wp2_with fail
            refine (first_any _).mono ?_
            rintro e w9 ⟨rfl, hp9⟩
            have G9 := Lib.hid (GR.out.pure hp9)
            clear hp9 c0 c1 c2 c3 c4 c5 c6 c7 c8 cf8 y0 y1 y2 y3 y4 y5 y6 y7 y8
            obtain ⟨c0, c1, c2, c3, c4, c5, c6, c7, c8, _⟩ := G9.out.e.cells
            obtain ⟨y0, y1, y2, y3, y4, y5, y6, y7, y8, _⟩ := G9.out.dd.cells
            go_wp2_with fail
            refine (check_any c _ [] _ ⟨⟨none, 0, rfl, Nat.le_refl _, by simp, fun h => by simp at h⟩, fun s hs => by simp at hs⟩).mono ?_
            rw [check_len HK.out (m := []) rfl]
            rintro e w10 ⟨rfl, hp10⟩
            have G10 := Lib.hid (G9.out.pure hp10)
            clear hp10 c0 c1 c2 c3 c4 c5 c6 c7 c8 y0 y1 y2 y3 y4 y5 y6 y7 y8
            obtain ⟨c0, c1, c2, c3, c4, c5, c6, c7, c8, _⟩ := G10.out.e.cells
            go_wp2_with fail
            refine (check_any c _ mm _ (ShsR.of_own G10.out.own G10.out.sl)).mono ?_
            rw [check_len HK.out (m := mm) (by rw [hm9]; rfl)]
            rintro e w11 ⟨rfl, hp11⟩
            have P11 := Lib.hid (G10.out.e.2.2.then hp11)
            clear hp11
            go_wp2
            go_ret
            exact ⟨rfl, P11.out⟩

theorem open_0 {H : Type} {enc : TypeId × Value → H} {W : World} {b0 base : Nat} {v : Value} {d : DataW H} {ps : List MemPlace} {r : Reach}
    (hval : Value.okWide Try.prog W r b0 24 v) (h : DataW.Trod enc Try.prog W base (fun _ => true) true 24 v d ps) : ∃ x : Cn × Value × List Sh, v = cnV x.1 x.2.1 ∧ ShsR W W.heap.size x.2.1 x.2.2 := open_conf hval h

theorem walk (w : World) (v : Value) (x : Cn × Value × List Sh) (h : v = cnV x.1 x.2.1 ∧ ShsR w w.heap.size x.2.1 x.2.2) :
    Calls Try.prog 7 #[v] w fun e w' => e = .returned (.bool true) ∧ Pure w w' := by
  obtain ⟨rfl, hs⟩ := h
  exact main x.1 x.2.1 x.2.2 w hs

set_option maxRecDepth 100000 in
theorem lifted (os : Os) (started : os.Started) (H : Type) (enc : TypeId × Value → H) :
    ReturnsInHanded {} Try.checked os 7 .any (Rows.confShapesSpec.pre6 enc Try.prog Try.f7 Rows.confShapesRow.domain false) (Rows.confShapesSpec.post enc Try.prog Try.f7 false true false false) :=
  lift_law (C := Try.checked) own started (by kernel_rfl) Try.func7 laidOut (by kernel_rfl) rfl rfl Try.underlying4
    (fun ds h => by match ds, h with | [_], _ => rfl)
    (ChangeSpec.witness6 (enc := enc) (C := Try.checked) false ⟨#[], #[.agg #[.int .i64 0, .int .i64 0, .int .i64 0, .int .i64 0, .int .i64 0, .int .i64 0, .int .i64 0, .int .i64 0, .slice none 0 0]], []⟩ 8 (by kernel_rfl) (by kernel_rfl) (by kernel_rfl) (by kernel_rfl))
    (fun W base args ds ps hval hA hlt => by
      have hA' : DataW.TrodAll enc Try.prog W 0 (fun _ => true) true Try.f7.params.toList args.toList ds ps := hA
      rw [Try.params7] at hA'
      have hval' : ∀ (j : Nat) t v, Try.f7.params[j]? = some t → args[j]? = some v → Value.okWide Try.prog W .any base t v := hval
      rw [Try.params7] at hval'
      obtain ⟨v0, vs0, d0, ds0, p0, q0, hargs, rfl, rfl, h0, r0⟩ := trodAll_cons hA'
      obtain ⟨rfl, rfl, rfl⟩ := trodAll_nil r0
      obtain rfl : args = #[v0] := by cases args; simp_all
      obtain ⟨x0, s0⟩ := open_0 (hval' 0 24 v0 rfl rfl) h0
      exact (walk W _ x0 s0).mono fun e W' ⟨he, hp⟩ => ⟨he, hp.below⟩)

/-- The statement. -/
theorem proved : Rows.ConfShapesSaid :=
  OpenClaim.holds_of_wide 7 Try.f7 rfl rfl rfl rfl rfl rfl rfl ⟨rfl, rfl, rfl, rfl, rfl⟩ rfl rfl rfl rfl rfl (by kernel_rfl) Try.func7 (by kernel_rfl)
    (of_decide_eq_true (by kernel_rfl)) (by unfold Func.isWrapper; first | (rw [if_pos (by decide +kernel)]; kernel_rfl) | (rw [if_neg (by decide +kernel)]; exact ⟨rfl, rfl⟩))
    (fun os started H enc _ => lifted os started H enc)
#print axioms proved

end Go.Proofs.Ythinbbhjfojhaaa.confShapes
