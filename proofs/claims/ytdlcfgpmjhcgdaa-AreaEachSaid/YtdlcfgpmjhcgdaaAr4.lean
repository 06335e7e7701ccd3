/-
  AreaEach: each address is of one thing, and comes back; nothing lies beyond. For every input.
-/
import Derived.Test.YtdlcfgpmjhcgdaaAr1
import Derived.Test.YtdlcfgpmjhcgdaaARef2
namespace Go.Proofs.Ytdlcfgpmjhcgdaa.areaEach
open Go.RowKit Go.ChangeShapes Go.WideShapes Go.ChangeAt

/-- How many of the first x addresses are of the region from p on that has n words. -/
def cnt (p n x : Int) : Int := if x < p then 0 else if x < p + n then x - p else n

/-- The counters in block Y. -/
def Cnts (w : World) (Y : Nat) (a b d x : Int) (w' : World) : Prop :=
  w.heap.size ≤ Y ∧ w'.heap[Y]? = some (.cells #[.int .i64 0, .int .i64 (cnt 0 a x), .int .i64 (cnt a b x), .int .i64 (cnt (a + b) b x), .int .i64 (cnt (a + b + b) d x)] 37 (0, 0))
theorem Cnts.keep {w p q : World} {Y : Nat} {a b d x : Int} (h : Cnts w Y a b d x p) (k : Pure p q) : Cnts w Y a b d x q :=
  ⟨h.1, (k.block Y (Array.getElem?_eq_some_iff.1 h.2).1 (fun f => f)).trans h.2⟩
theorem Cnts.cells {w p : World} {Y : Nat} {a b d x : Int} (h : Cnts w Y a b d x p) :
    p.cell? ⟨Y, 1, none⟩ = some (.int .i64 (cnt 0 a x)) ∧ p.cell? ⟨Y, 2, none⟩ = some (.int .i64 (cnt a b x)) ∧ p.cell? ⟨Y, 3, none⟩ = some (.int .i64 (cnt (a + b) b x)) ∧ p.cell? ⟨Y, 4, none⟩ = some (.int .i64 (cnt (a + b + b) d x)) ∧ ∀ q, p.frozen? ⟨Y, q, none⟩ = false := by
  refine ⟨?_, ?_, ?_, ?_, fun q => frozen_of_row p Y q _ _ h.2⟩ <;> (rw [cell_of_row p Y _ _ _ _ h.2]; rfl)
theorem cnt_bd (p n x : Int) (hn : 0 ≤ n) (hn2 : n ≤ 20000) : 0 ≤ cnt p n x ∧ cnt p n x ≤ 20000 := by
  unfold cnt
  split
  · omega
  · split <;> omega
theorem cnt_out {p n x : Int} (h : x < p ∨ p + n ≤ x) (hn : 0 ≤ n) : cnt p n (x + 1) = cnt p n x := by
  unfold cnt
  rcases h with h | h
  · by_cases h2 : x + 1 < p
    · rw [if_pos h2, if_pos h]
    · rw [if_neg h2, if_pos h]
      split <;> omega
  · rw [if_neg (by omega), if_neg (by omega), if_neg (by omega), if_neg (by omega)]
theorem cnt_in {p n x : Int} (h : p ≤ x) (h2 : x < p + n) : cnt p n (x + 1) = cnt p n x + 1 := by
  unfold cnt
  rw [if_neg (show ¬ x + 1 < p by omega), if_neg (show ¬ x < p by omega), if_pos h2]
  split <;> omega
theorem Cnts.set {w p : World} {Y : Nat} {a b d x : Int} (h : Cnts w Y a b d x p) (ha : 0 ≤ a) (hb : 0 ≤ b) (hd : 0 ≤ d) (j : Nat) (u : Int) (hj : (j = 1 ∧ u = cnt 0 a x + 1 ∧ 0 ≤ x ∧ x < a) ∨ (j = 2 ∧ u = cnt a b x + 1 ∧ a ≤ x ∧ x < a + b) ∨ (j = 3 ∧ u = cnt (a + b) b x + 1 ∧ a + b ≤ x ∧ x < a + b + b) ∨ (j = 4 ∧ u = cnt (a + b + b) d x + 1 ∧ a + b + b ≤ x ∧ x < a + b + b + d)) :
    Cnts w Y a b d (x + 1) (p.setCell ⟨Y, j, none⟩ (.int .i64 u)) := by
  refine ⟨h.1, ?_⟩
  rcases hj with ⟨rfl, rfl, h0, h1⟩ | ⟨rfl, rfl, h0, h1⟩ | ⟨rfl, rfl, h0, h1⟩ | ⟨rfl, rfl, h0, h1⟩
  · rw [cnt_in (by omega) (by omega), cnt_out (p := a) (by omega) hb, cnt_out (p := a + b) (by omega) hb, cnt_out (p := a + b + b) (by omega) hd]
    simp [World.setCell, Array.getElem?_modify, h.2]
  · rw [cnt_out (p := 0) (by omega) ha, cnt_in (p := a) (by omega) (by omega), cnt_out (p := a + b) (by omega) hb, cnt_out (p := a + b + b) (by omega) hd]
    simp [World.setCell, Array.getElem?_modify, h.2]
  · rw [cnt_out (p := 0) (by omega) ha, cnt_out (p := a) (by omega) hb, cnt_in (p := a + b) (by omega) (by omega), cnt_out (p := a + b + b) (by omega) hd]
    simp [World.setCell, Array.getElem?_modify, h.2]
  · rw [cnt_out (p := 0) (by omega) ha, cnt_out (p := a) (by omega) hb, cnt_out (p := a + b) (by omega) hb, cnt_in (p := a + b + b) (by omega) (by omega)]
    simp [World.setCell, Array.getElem?_modify, h.2]

set_option maxRecDepth 100000 in
set_option maxHeartbeats 4000000 in
theorem main (c : Cn) (v : Value) (l : List Sh) (w : World) (hl : ShsR w w.heap.size v l) :
    Calls Try.prog 5 #[cnV c v] w fun e w' => e = .returned (.bool true) ∧ Pure w w' := by
  have HL := Lib.hid (fun (w' : World) (hp : Pure w w') => hl.pure hp)
  obtain ⟨A, cc, rfl⟩ : ∃ A cc, v = .slice A l.length cc := by
    obtain ⟨⟨A, cc, rfl, _⟩, _⟩ := hl
    exact ⟨A, cc, rfl⟩
  clear hl
  go_enter Try.func5, Try.ntmps5
  go_wp2_with fail
  have hr := Row.new w c (.slice A l.length cc)
  generalize w.alloc _ = W at hr ⊢
  generalize w.heap.size = X at hr ⊢
  have R := Lib.hid hr
  clear hr
  refine (first_any _).mono ?_
  rintro e w1 ⟨rfl, hp1⟩
  have R1 := Lib.hid (R.out.keep hp1)
  clear hp1
  obtain ⟨c0, c1, c2, c3, c4, c5, c6, c7, c8, _⟩ := R1.out.cells
  go_wp2_with fail
  refine (few_tells c _ l _ (HL.out _ R1.out.2.2)).mono ?_
  rintro e w2 ⟨⟨b, rfl, -⟩, hp2⟩
  have R2 := Lib.hid (R1.out.keep hp2)
  clear hp2 c0 c1 c2 c3 c4 c5 c6 c7 c8
  obtain ⟨c0, c1, c2, c3, c4, c5, c6, c7, c8, _⟩ := R2.out.cells
  cases b with
  | false =>
    go_wp2_with fail
    refine (first_any _).mono ?_
    rintro e w8 ⟨rfl, hp8⟩
    have P8 := Lib.hid (R2.out.2.2.then hp8)
    clear hp8
    go_wp2
    go_ret
    exact ⟨rfl, P8.out⟩
  | true =>
    go_wp2_with fail
    refine (check_any c _ l _ (HL.out _ R2.out.2.2)).mono ?_
    rcases check_cases c l with hk | hk | hk
    case inr.inl | inr.inr =>
      rw [hk]
      rintro e w3 ⟨rfl, hp3⟩
      have R3 := Lib.hid (R2.out.keep hp3)
      clear hp3
      go_wp2_with fail
      refine (first_any _).mono ?_
      rintro e w8 ⟨rfl, hp8⟩
      have P8 := Lib.hid (R3.out.2.2.then hp8)
      clear hp8
      go_wp2
      go_ret
      exact ⟨rfl, P8.out⟩
    have HK := Lib.hid hk
    rw [hk]
    rintro e w3 ⟨rfl, hp3⟩
    have R3 := Lib.hid (R2.out.keep hp3)
    clear hp3 hk c0 c1 c2 c3 c4 c5 c6 c7 c8
    obtain ⟨c0, c1, c2, c3, c4, c5, c6, c7, c8, _⟩ := R3.out.cells
    obtain ⟨b0, b1, b2, b3, b4, b5⟩ := check_bd HK.out
    go_wp2_with fail
    refine (refcheck_any c _ l _ (HL.out _ R3.out.2.2)).mono ?_
    rw [HK.out]
    rintro e w4 ⟨rfl, hp4⟩
    have R4 := Lib.hid (R3.out.keep hp4)
    clear hp4 c0 c1 c2 c3 c4 c5 c6 c7 c8
    obtain ⟨c0, c1, c2, c3, c4, c5, c6, c7, c8, _⟩ := R4.out.cells
    have hwd := fun (w' : World) (hp : Pure w w') => (words_any c (.slice A l.length cc) l w' (HL.out _ hp)).mono (fun _ _ ⟨he, hq⟩ => (⟨he.trans (ret_i (show 8 * c.frags + 2 * c.spine + c.globals = _ from by have := z_ok HK.out; omega)), hq⟩ : _ = Ending.returned (.int .i64 (8 * c.frags + 2 * c.spine + c.globals)) ∧ Pure w' _))
    have HWD := Lib.hid hwd
    clear hwd
    go_wp2_with fail
    refine (HWD.out _ R4.out.2.2).mono ?_
    rintro e wR5 ⟨rfl, hp⟩
    have R5 := Lib.hid (R4.out.keep hp)
    clear hp c0 c1 c2 c3 c4 c5 c6 c7 c8
    obtain ⟨c0, c1, c2, c3, c4, c5, c6, c7, c8, _⟩ := R5.out.cells
    go_wp2_with fail
    have hcn : Cnts w wR5.heap.size (8 * c.frags) c.spine c.globals 0 (wR5.alloc (.cells #[.int .i64 0, .int .i64 0, .int .i64 0, .int .i64 0, .int .i64 0] 37)) := by
      refine ⟨R5.out.2.2.size, ?_⟩
      rw [show cnt 0 (8 * c.frags) 0 = 0 from by unfold cnt; rw [if_neg (by omega), if_pos (by omega)]; omega, show cnt (8 * c.frags) c.spine 0 = 0 from by unfold cnt; rw [if_pos (by omega)], show cnt (8 * c.frags + c.spine) c.spine 0 = 0 from by unfold cnt; rw [if_pos (by omega)], show cnt (8 * c.frags + c.spine + c.spine) c.globals 0 = 0 from by unfold cnt; rw [if_pos (by omega)]]
      exact heap_alloc_new wR5 _
    have CN := Lib.hid hcn
    have R6 := Lib.hid (R5.out.keep ((Only.refl _ _).alloc (.cells #[.int .i64 0, .int .i64 0, .int .i64 0, .int .i64 0, .int .i64 0] 37)))
    clear hcn
    generalize wR5.alloc (.cells #[.int .i64 0, .int .i64 0, .int .i64 0, .int .i64 0, .int .i64 0] 37) = W6 at *
    have HXY := Lib.hid (show X ≠ wR5.heap.size from by have := (Array.getElem?_eq_some_iff.1 R5.out.2.1).1; omega)
    generalize wR5.heap.size = Y at *
    clear c0 c1 c2 c3 c4 c5 c6 c7 c8
    go_loopw [5] (fun i wr => ∃ k : Int, 0 ≤ k ∧ k ≤ 8 * c.frags + 2 * c.spine + c.globals ∧ i = .int .i64 k ∧ Row w X c (.slice A l.length cc) wr ∧ Cnts w Y (8 * c.frags) c.spine c.globals k wr) (fun i _ => (8 * c.frags + 2 * c.spine + c.globals - intOf i).toNat)
    case atStart => exact ⟨0, by omega, by omega, rfl, R6.out, CN.out⟩
    case round =>
      obtain ⟨k, k0, k1, rfl, hrel, hcnt⟩ := hrel
      have RR := Lib.hid hrel
      have CR := Lib.hid hcnt
      obtain ⟨c0, c1, c2, c3, c4, c5, c6, c7, c8, _⟩ := hrel.cells
      clear hrel hcnt
      have hz := Lib.hid (z_ok HK.out)
      rcases (by omega : k < 8 * c.frags ∨ (8 * c.frags ≤ k ∧ k < 8 * c.frags + c.spine) ∨ (8 * c.frags + c.spine ≤ k ∧ k < 8 * c.frags + c.spine + c.spine) ∨ (8 * c.frags + c.spine + c.spine ≤ k ∧ k < 8 * c.frags + c.spine + c.spine + c.globals) ∨ k = 8 * c.frags + 2 * c.spine + c.globals) with g | ⟨g0, g⟩ | ⟨g0, g⟩ | ⟨g0, g⟩ | g
      · have hof : ofI (z0 c l) (z1 c l) (z3 c l) k = (1, k / 8, k % 8) := by
          have h := hz.out
          unfold ofI
          rw [if_neg (by omega), if_pos (by omega)]
        have hfb := fun (w' : World) (hp : Pure w w') => (frag_in c (.slice A l.length cc) l (k / 8) (k % 8) w' (HL.out _ hp) HK.out (by omega) (by omega) (by omega) (by omega)).mono (fun _ _ ⟨he, hq⟩ => (⟨he.trans (ret_2 (show k = _ from by omega) rfl), hq⟩ : _ = Ending.returned (.tuple #[.int .i64 k, .int .i64 0]) ∧ Pure w' _))
        have HFB := Lib.hid hfb
        have hbd := cnt_bd 0 (8 * c.frags) k (by omega) (by omega)
        have HBD := Lib.hid hbd
        have HOF := Lib.hid hof
        clear hfb hbd hof
        go_wp2_with fail
        refine (of_any c _ l k _ (HL.out _ RR.out.2.2) (by omega)).mono ?_
        rw [HOF.out]
        rintro e w7 ⟨rfl, hp7⟩
        have R7 := Lib.hid (RR.out.keep hp7)
        have C7 := Lib.hid (CR.out.keep hp7)
        clear hp7 c0 c1 c2 c3 c4 c5 c6 c7 c8
        obtain ⟨c0, c1, c2, c3, c4, c5, c6, c7, c8, _⟩ := R7.out.cells
        go_wp2_with fail
        refine (HFB.out _ R7.out.2.2).mono ?_
        rintro e w8 ⟨rfl, hp8⟩
        have R8 := Lib.hid (R7.out.keep hp8)
        have C8 := Lib.hid (C7.out.keep hp8)
        clear hp8 c0 c1 c2 c3 c4 c5 c6 c7 c8
        obtain ⟨y1, y2, y3, y4, yf⟩ := C8.out.cells
        have yf1 := yf 1
        clear yf y2 y3 y4
        have hset := C8.out.set (by omega) (by omega) (by omega) 1 (cnt 0 (8 * c.frags) k + 1) ((.inl ⟨rfl, rfl, k0, g⟩))
        obtain ⟨hb0, hb1⟩ := HBD.out
        generalize cnt 0 (8 * c.frags) k = n at y1 hset hb0 hb1
        have HSET := Lib.hid hset
        clear hset
        have hrow : Row w X c (.slice A l.length cc) (w8.setCell ⟨Y, 1, none⟩ (.int .i64 (n + 1))) := ⟨R8.out.1, (((Only.refl (fun q => q = Y) w8).setCell (p := ⟨Y, 1, none⟩) (fun _ => rfl) _).block X (Array.getElem?_eq_some_iff.1 R8.out.2.1).1 HXY.out).trans R8.out.2.1, R8.out.2.2.setCell (fun h => absurd h (Nat.not_lt.2 C8.out.1)) _⟩
        have HROW := Lib.hid hrow
        clear hrow
        go_wp2_with fail
        go_roundw
        case rel => exact ⟨k + 1, by omega, by omega, by first | rfl | simp, HROW.out, HSET.out⟩
        case measure => simp [intOf]; omega
      · have hof : ofI (z0 c l) (z1 c l) (z3 c l) k = (2, 0, k - 8 * c.frags) := by
          have h := hz.out
          unfold ofI
          rw [if_neg (by omega), if_neg (by omega), if_pos (by omega)]
          simp only [Prod.mk.injEq, true_and]
          omega
        have hfb := fun (w' : World) (hp : Pure w w') => (spine_in c (.slice A l.length cc) l 0 (k - 8 * c.frags) w' (HL.out _ hp) HK.out (by omega) (by omega) (by omega)).mono (fun _ _ ⟨he, hq⟩ => (⟨he.trans (ret_2 (show k = _ from by omega) rfl), hq⟩ : _ = Ending.returned (.tuple #[.int .i64 k, .int .i64 0]) ∧ Pure w' _))
        have HFB := Lib.hid hfb
        have hbd := cnt_bd (8 * c.frags) c.spine k (by omega) (by omega)
        have HBD := Lib.hid hbd
        have HOF := Lib.hid hof
        clear hfb hbd hof
        go_wp2_with fail
        refine (of_any c _ l k _ (HL.out _ RR.out.2.2) (by omega)).mono ?_
        rw [HOF.out]
        rintro e w7 ⟨rfl, hp7⟩
        have R7 := Lib.hid (RR.out.keep hp7)
        have C7 := Lib.hid (CR.out.keep hp7)
        clear hp7 c0 c1 c2 c3 c4 c5 c6 c7 c8
        obtain ⟨c0, c1, c2, c3, c4, c5, c6, c7, c8, _⟩ := R7.out.cells
        go_wp2_with fail
        refine (HFB.out _ R7.out.2.2).mono ?_
        rintro e w8 ⟨rfl, hp8⟩
        have R8 := Lib.hid (R7.out.keep hp8)
        have C8 := Lib.hid (C7.out.keep hp8)
        clear hp8 c0 c1 c2 c3 c4 c5 c6 c7 c8
        obtain ⟨y1, y2, y3, y4, yf⟩ := C8.out.cells
        have yf1 := yf 2
        clear yf y1 y3 y4
        have hset := C8.out.set (by omega) (by omega) (by omega) 2 (cnt (8 * c.frags) c.spine k + 1) ((.inr (.inl ⟨rfl, rfl, g0, g⟩)))
        obtain ⟨hb0, hb1⟩ := HBD.out
        generalize cnt (8 * c.frags) c.spine k = n at y2 hset hb0 hb1
        have HSET := Lib.hid hset
        clear hset
        have hrow : Row w X c (.slice A l.length cc) (w8.setCell ⟨Y, 2, none⟩ (.int .i64 (n + 1))) := ⟨R8.out.1, (((Only.refl (fun q => q = Y) w8).setCell (p := ⟨Y, 2, none⟩) (fun _ => rfl) _).block X (Array.getElem?_eq_some_iff.1 R8.out.2.1).1 HXY.out).trans R8.out.2.1, R8.out.2.2.setCell (fun h => absurd h (Nat.not_lt.2 C8.out.1)) _⟩
        have HROW := Lib.hid hrow
        clear hrow
        go_wp2_with fail
        go_roundw
        case rel => exact ⟨k + 1, by omega, by omega, by first | rfl | simp, HROW.out, HSET.out⟩
        case measure => simp [intOf]; omega
      · have hof : ofI (z0 c l) (z1 c l) (z3 c l) k = (3, 0, k - 8 * c.frags - c.spine) := by
          have h := hz.out
          unfold ofI
          rw [if_neg (by omega), if_neg (by omega), if_neg (by omega), if_pos (by omega)]
          simp only [Prod.mk.injEq, true_and]
          omega
        have hfb := fun (w' : World) (hp : Pure w w') => (spine_in c (.slice A l.length cc) l 1 (k - 8 * c.frags - c.spine) w' (HL.out _ hp) HK.out (by omega) (by omega) (by omega)).mono (fun _ _ ⟨he, hq⟩ => (⟨he.trans (ret_2 (show k = _ from by omega) rfl), hq⟩ : _ = Ending.returned (.tuple #[.int .i64 k, .int .i64 0]) ∧ Pure w' _))
        have HFB := Lib.hid hfb
        have hbd := cnt_bd (8 * c.frags + c.spine) c.spine k (by omega) (by omega)
        have HBD := Lib.hid hbd
        have HOF := Lib.hid hof
        clear hfb hbd hof
        go_wp2_with fail
        refine (of_any c _ l k _ (HL.out _ RR.out.2.2) (by omega)).mono ?_
        rw [HOF.out]
        rintro e w7 ⟨rfl, hp7⟩
        have R7 := Lib.hid (RR.out.keep hp7)
        have C7 := Lib.hid (CR.out.keep hp7)
        clear hp7 c0 c1 c2 c3 c4 c5 c6 c7 c8
        obtain ⟨c0, c1, c2, c3, c4, c5, c6, c7, c8, _⟩ := R7.out.cells
        go_wp2_with fail
        refine (HFB.out _ R7.out.2.2).mono ?_
        rintro e w8 ⟨rfl, hp8⟩
        have R8 := Lib.hid (R7.out.keep hp8)
        have C8 := Lib.hid (C7.out.keep hp8)
        clear hp8 c0 c1 c2 c3 c4 c5 c6 c7 c8
        obtain ⟨y1, y2, y3, y4, yf⟩ := C8.out.cells
        have yf1 := yf 3
        clear yf y1 y2 y4
        have hset := C8.out.set (by omega) (by omega) (by omega) 3 (cnt (8 * c.frags + c.spine) c.spine k + 1) ((.inr (.inr (.inl ⟨rfl, rfl, g0, g⟩))))
        obtain ⟨hb0, hb1⟩ := HBD.out
        generalize cnt (8 * c.frags + c.spine) c.spine k = n at y3 hset hb0 hb1
        have HSET := Lib.hid hset
        clear hset
        have hrow : Row w X c (.slice A l.length cc) (w8.setCell ⟨Y, 3, none⟩ (.int .i64 (n + 1))) := ⟨R8.out.1, (((Only.refl (fun q => q = Y) w8).setCell (p := ⟨Y, 3, none⟩) (fun _ => rfl) _).block X (Array.getElem?_eq_some_iff.1 R8.out.2.1).1 HXY.out).trans R8.out.2.1, R8.out.2.2.setCell (fun h => absurd h (Nat.not_lt.2 C8.out.1)) _⟩
        have HROW := Lib.hid hrow
        clear hrow
        go_wp2_with fail
        go_roundw
        case rel => exact ⟨k + 1, by omega, by omega, by first | rfl | simp, HROW.out, HSET.out⟩
        case measure => simp [intOf]; omega
      · have hof : ofI (z0 c l) (z1 c l) (z3 c l) k = (4, 0, k - 8 * c.frags - c.spine - c.spine) := by
          have h := hz.out
          unfold ofI
          rw [if_neg (by omega), if_neg (by omega), if_neg (by omega), if_neg (by omega), if_pos (by omega)]
          simp only [Prod.mk.injEq, true_and]
          omega
        have hfb := fun (w' : World) (hp : Pure w w') => (global_in c (.slice A l.length cc) l (k - 8 * c.frags - c.spine - c.spine) w' (HL.out _ hp) HK.out (by omega) (by omega)).mono (fun _ _ ⟨he, hq⟩ => (⟨he.trans (ret_2 (show k = _ from by omega) rfl), hq⟩ : _ = Ending.returned (.tuple #[.int .i64 k, .int .i64 0]) ∧ Pure w' _))
        have HFB := Lib.hid hfb
        have hbd := cnt_bd (8 * c.frags + c.spine + c.spine) c.globals k (by omega) (by omega)
        have HBD := Lib.hid hbd
        have HOF := Lib.hid hof
        clear hfb hbd hof
        go_wp2_with fail
        refine (of_any c _ l k _ (HL.out _ RR.out.2.2) (by omega)).mono ?_
        rw [HOF.out]
        rintro e w7 ⟨rfl, hp7⟩
        have R7 := Lib.hid (RR.out.keep hp7)
        have C7 := Lib.hid (CR.out.keep hp7)
        clear hp7 c0 c1 c2 c3 c4 c5 c6 c7 c8
        obtain ⟨c0, c1, c2, c3, c4, c5, c6, c7, c8, _⟩ := R7.out.cells
        go_wp2_with fail
        refine (HFB.out _ R7.out.2.2).mono ?_
        rintro e w8 ⟨rfl, hp8⟩
        have R8 := Lib.hid (R7.out.keep hp8)
        have C8 := Lib.hid (C7.out.keep hp8)
        clear hp8 c0 c1 c2 c3 c4 c5 c6 c7 c8
        obtain ⟨y1, y2, y3, y4, yf⟩ := C8.out.cells
        have yf1 := yf 4
        clear yf y1 y2 y3
        have hset := C8.out.set (by omega) (by omega) (by omega) 4 (cnt (8 * c.frags + c.spine + c.spine) c.globals k + 1) ((.inr (.inr (.inr ⟨rfl, rfl, g0, g⟩))))
        obtain ⟨hb0, hb1⟩ := HBD.out
        generalize cnt (8 * c.frags + c.spine + c.spine) c.globals k = n at y4 hset hb0 hb1
        have HSET := Lib.hid hset
        clear hset
        have hrow : Row w X c (.slice A l.length cc) (w8.setCell ⟨Y, 4, none⟩ (.int .i64 (n + 1))) := ⟨R8.out.1, (((Only.refl (fun q => q = Y) w8).setCell (p := ⟨Y, 4, none⟩) (fun _ => rfl) _).block X (Array.getElem?_eq_some_iff.1 R8.out.2.1).1 HXY.out).trans R8.out.2.1, R8.out.2.2.setCell (fun h => absurd h (Nat.not_lt.2 C8.out.1)) _⟩
        have HROW := Lib.hid hrow
        clear hrow
        go_wp2_with fail
        go_roundw
        case rel => exact ⟨k + 1, by omega, by omega, by first | rfl | simp, HROW.out, HSET.out⟩
        case measure => simp [intOf]; omega
      · have hof : ofI (z0 c l) (z1 c l) (z3 c l) k = (0, 0, 0) := by
          have h := hz.out
          unfold ofI
          rw [if_neg (by omega), if_neg (by omega), if_neg (by omega), if_neg (by omega), if_neg (by omega)]
        have hof2 : ofI (z0 c l) (z1 c l) (z3 c l) (-1) = (0, 0, 0) := if_pos (by omega)
        have e1 : cnt 0 (8 * c.frags) k = 8 * c.frags := by unfold cnt; rw [if_neg (by omega), if_neg (by omega)]
        have e2 : cnt (8 * c.frags) c.spine k = c.spine := by unfold cnt; rw [if_neg (by omega), if_neg (by omega)]
        have e3 : cnt (8 * c.frags + c.spine) c.spine k = c.spine := by unfold cnt; rw [if_neg (by omega), if_neg (by omega)]
        have e4 : cnt (8 * c.frags + c.spine + c.spine) c.globals k = c.globals := by unfold cnt; rw [if_neg (by omega)]; split <;> omega
        have HOF := Lib.hid hof
        have HOF2 := Lib.hid hof2
        have E1 := Lib.hid e1; have E2 := Lib.hid e2; have E3 := Lib.hid e3; have E4 := Lib.hid e4
        clear hof hof2 e1 e2 e3 e4
        have hkge : ¬ k < 8 * c.frags + 2 * c.spine + c.globals := by omega
        subst g
        go_wp2_with fail
        refine (of_any c _ l _ _ (HL.out _ RR.out.2.2) (by omega)).mono ?_
        rw [HOF.out]
        rintro e w7 ⟨rfl, hp7⟩
        have R7 := Lib.hid (RR.out.keep hp7)
        have C7 := Lib.hid (CR.out.keep hp7)
        clear hp7 c0 c1 c2 c3 c4 c5 c6 c7 c8
        obtain ⟨c0, c1, c2, c3, c4, c5, c6, c7, c8, _⟩ := R7.out.cells
        go_wp2_with fail
        refine (of_any c _ l (-1) _ (HL.out _ R7.out.2.2) (by omega)).mono ?_
        rw [HOF2.out]
        rintro e w8 ⟨rfl, hp8⟩
        have R8 := Lib.hid (R7.out.keep hp8)
        have C8 := Lib.hid (C7.out.keep hp8)
        clear hp8 c0 c1 c2 c3 c4 c5 c6 c7 c8
        obtain ⟨c0, c1, c2, c3, c4, c5, c6, c7, c8, _⟩ := R8.out.cells
        go_wp2_with fail
        refine (first_any _).mono ?_
        rintro e w9 ⟨rfl, hp9⟩
        have R9 := Lib.hid (R8.out.keep hp9)
        have C9 := Lib.hid (C8.out.keep hp9)
        clear hp9 c0 c1 c2 c3 c4 c5 c6 c7 c8
        obtain ⟨c0, c1, c2, c3, c4, c5, c6, c7, c8, _⟩ := R9.out.cells
        obtain ⟨y1, y2, y3, y4, _⟩ := C9.out.cells
        rw [E1.out] at y1
        rw [E2.out] at y2
        rw [E3.out] at y3
        rw [E4.out] at y4
        go_wp2_with fail
        go_ret
        exact ⟨rfl, R9.out.2.2⟩

theorem open_0 {H : Type} {enc : TypeId × Value → H} {W : World} {b0 base : Nat} {v : Value} {d : DataW H} {ps : List MemPlace} {r : Reach}
    (hval : Value.okWide Try.prog W r b0 24 v) (h : DataW.Trod enc Try.prog W base (fun _ => true) true 24 v d ps) : ∃ x : Cn × Value × List Sh, v = cnV x.1 x.2.1 ∧ ShsR W W.heap.size x.2.1 x.2.2 := open_conf hval h

theorem walk (w : World) (v : Value) (x : Cn × Value × List Sh) (h : v = cnV x.1 x.2.1 ∧ ShsR w w.heap.size x.2.1 x.2.2) :
    Calls Try.prog 5 #[v] w fun e w' => e = .returned (.bool true) ∧ Pure w w' := by
  obtain ⟨rfl, hs⟩ := h
  exact main x.1 x.2.1 x.2.2 w hs

set_option maxRecDepth 100000 in
theorem lifted (os : Os) (started : os.Started) (H : Type) (enc : TypeId × Value → H) :
    ReturnsInHanded {} Try.checked os 5 .any (Rows.areaEachSpec.pre6 enc Try.prog Try.f5 Rows.areaEachRow.domain false) (Rows.areaEachSpec.post enc Try.prog Try.f5 false true false false) :=
  lift_law (C := Try.checked) own started (by kernel_rfl) Try.func5 laidOut (by kernel_rfl) rfl rfl Try.underlying4
    (fun ds h => by match ds, h with | [_], _ => rfl)
    (ChangeSpec.witness6 (enc := enc) (C := Try.checked) false ⟨#[], #[.agg #[.int .i64 0, .int .i64 0, .int .i64 0, .int .i64 0, .int .i64 0, .int .i64 0, .int .i64 0, .int .i64 0, .slice none 0 0]], []⟩ 8 (by kernel_rfl) (by kernel_rfl) (by kernel_rfl) (by kernel_rfl))
    (fun W base args ds ps hval hA hlt => by
      have hA' : DataW.TrodAll enc Try.prog W 0 (fun _ => true) true Try.f5.params.toList args.toList ds ps := hA
      rw [Try.params5] at hA'
      have hval' : ∀ (j : Nat) t v, Try.f5.params[j]? = some t → args[j]? = some v → Value.okWide Try.prog W .any base t v := hval
      rw [Try.params5] at hval'
      obtain ⟨v0, vs0, d0, ds0, p0, q0, hargs, rfl, rfl, h0, r0⟩ := trodAll_cons hA'
      obtain ⟨rfl, rfl, rfl⟩ := trodAll_nil r0
      obtain rfl : args = #[v0] := by cases args; simp_all
      obtain ⟨x0, s0⟩ := open_0 (hval' 0 24 v0 rfl rfl) h0
      exact (walk W _ x0 s0).mono fun e W' ⟨he, hp⟩ => ⟨he, hp.below⟩)

/-- The statement. -/
theorem proved : Rows.AreaEachSaid :=
  OpenClaim.holds_of_wide 5 Try.f5 rfl rfl rfl rfl rfl rfl rfl ⟨rfl, rfl, rfl, rfl, rfl⟩ rfl rfl rfl rfl rfl (by kernel_rfl) Try.func5 (by kernel_rfl)
    (of_decide_eq_true (by kernel_rfl)) (by unfold Func.isWrapper; first | (rw [if_pos (by decide +kernel)]; kernel_rfl) | (rw [if_neg (by decide +kernel)]; exact ⟨rfl, rfl⟩))
    (fun os started H enc _ => lifted os started H enc)
#print axioms proved

end Go.Proofs.Ytdlcfgpmjhcgdaa.areaEach
