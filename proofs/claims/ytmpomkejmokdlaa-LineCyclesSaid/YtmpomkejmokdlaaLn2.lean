/-
  LineCycles: who came ahead of a Begin has one Cycle more at the End; who was granted has none more; it is dropped once. For every input.
-/
import Derived.Test.YtmpomkejmokdlaaLine6
import Derived.Deep.DeepCutAuto
import Derived.Deep.CutBlock
namespace Go.Proofs.Ytmpomkejmokdlaa.lineCycles
open Go.RowKit Go.ChangeShapes Go.WideShapes Go.ChangeAt

/-- The line holds the entries l; nothing that was there ahead of the call is touched. -/
structure Cy (w wr : World) (P : Nat) (v : Value) (l : List En) : Prop where
  line : LineOf wr P v l
  new : ∀ k, LineS P v k → w.heap.size ≤ k
  pure : Pure w wr
section
variable {w wr w2 : World} {P : Nat} {v v2 : Value} {l l2 : List En}
theorem Cy.keep (h : Cy w wr P v l) (hp : Pure wr w2) : Cy w w2 P v l := ⟨h.line.pure hp, h.new, Pure.then h.pure hp⟩
theorem Cy.step (h : Cy w wr P v l) (hl : LineOf w2 P v2 l2) (ho : Only (LineS P v) wr w2) (hat : v2.ownBlock = v.ownBlock ∨ ∃ q, v2.ownBlock = some q ∧ wr.heap.size ≤ q) : Cy w w2 P v2 l2 := by
  refine ⟨hl, fun k hk => ?_, h.pure.trans ho (fun i hi e => by have := h.new i e; omega)⟩
  rcases hk with rfl | e
  · exact h.new _ (.inl rfl)
  · rcases hat with hat | ⟨q, hat, hq⟩
    · exact h.new _ (.inr (by rw [← hat]; exact e))
    · have : q = k := by rw [hat] at e; injection e
      have := h.pure.size
      omega
end

/-! ### Plain -/
def A (i : Int) (t : Nat) : En := ⟨t, (t : Int) + 1, 0, 0, i, -1, .slice none 0 0, [], false⟩
def B (i : Int) (j : Nat) : En := ⟨1000 + (j : Int), 0, 0, 0, i - 1 - (j : Int), -1, .slice none 0 0, [], false⟩
/-- The entries behind i rounds. -/
def L (n i : Nat) : List En := (List.range n).map (A i) ++ (List.range i).map (B i)
theorem L_len (n i : Nat) : (L n i).length = n + i := by simp [L]
theorem L_mem {n i : Nat} {e : En} (h : e ∈ L n i) : (∃ t, t < n ∧ e = A i t) ∨ ∃ j, j < i ∧ e = B i j := by
  rcases List.mem_append.1 h with h | h
  · obtain ⟨t, ht, rfl⟩ := List.mem_map.1 h
    exact .inl ⟨t, List.mem_range.1 ht, rfl⟩
  · obtain ⟨t, ht, rfl⟩ := List.mem_map.1 h
    exact .inr ⟨t, List.mem_range.1 ht, rfl⟩
theorem L_get {n i : Nat} (t : Nat) (ht : t < n) : (L n i)[t]? = some (A i t) := by
  simp only [L]
  rw [List.getElem?_append_left (by simpa using ht)]
  simp [ht]
theorem L_quiet (n i : Nat) : (L n i).map tick = L n i := by
  have h : ∀ e ∈ L n i, tick e = e := fun e he => by
    rcases L_mem he with ⟨t, _, rfl⟩ | ⟨t, _, rfl⟩ <;> simp [tick, A, B]
  conv => rhs; rw [← List.map_id (L n i)]
  exact List.map_congr_left h
theorem L_cyc {n i : Nat} (hi : i ≤ 20) : ∀ e ∈ L n i, 0 ≤ e.cycles ∧ e.cycles ≤ 100000 := fun e he => by
  rcases L_mem he with ⟨t, _, rfl⟩ | ⟨t, _, rfl⟩ <;> simp [A, B] <;> omega
theorem tick_A (i t : Nat) : tick (note (A i t)) = A ((i + 1 : Nat) : Int) t := by simp [tick, note, A, isW]
theorem tick_B (i j : Nat) : tick (note (B i j)) = B ((i + 1 : Nat) : Int) j := by simp [tick, note, B, isW]; omega
theorem L_round (n i : Nat) : ((L n i).map note ++ [fresh ⟨1000 + (i : Int), 0, 0, 0, 0, 0, .slice none 0 0, [], false⟩]).map tick = L n (i + 1) := by
  have h1 : ((List.range n).map (A i)).map (fun e => tick (note e)) = (List.range n).map (A ((i + 1 : Nat) : Int)) := by
    rw [List.map_map]
    exact List.map_congr_left (fun t _ => tick_A i t)
  have h2 : ((List.range i).map (B i)).map (fun e => tick (note e)) = (List.range i).map (B ((i + 1 : Nat) : Int)) := by
    rw [List.map_map]
    exact List.map_congr_left (fun t _ => tick_B i t)
  have h3 : tick (fresh ⟨1000 + (i : Int), 0, 0, 0, 0, 0, .slice none 0 0, [], false⟩) = B ((i + 1 : Nat) : Int) i := by
    simp [tick, fresh, B]
  have h4 : ((L n i).map note).map tick = (L n i).map (fun e => tick (note e)) := by rw [List.map_map]; rfl
  rw [List.map_append, h4, List.map_cons, List.map_nil, h3, L, List.map_append, h1, h2, L, List.range_succ, List.map_append, List.append_assoc]
  rfl
theorem note_cyc {l : List En} {x : En} (h : ∀ e ∈ l, 0 ≤ e.cycles ∧ e.cycles ≤ 100000) (hx : 0 ≤ x.cycles ∧ x.cycles ≤ 100000) : ∀ e ∈ l.map note ++ [x], 0 ≤ e.cycles ∧ e.cycles ≤ 100000 := fun e he => by
  rcases List.mem_append.1 he with he | he
  · obtain ⟨y, hy, rfl⟩ := List.mem_map.1 he
    exact h y hy
  · simp at he
    subst he
    exact hx
theorem ix_none {l : List En} (t : Int) (h : ∀ e ∈ l, e.thread ≠ t) : ixI (isT t) l = -1 :=
  ixI_none (fun j e he => by
    have := h e (List.mem_of_getElem? he)
    simp [isT, this])
theorem ix_new (n i : Nat) (hn : n ≤ 50) : ixI (isT (1000 + (i : Int))) ((L n i).map note) = -1 := ix_none _ (fun e he => by
  obtain ⟨y, hy, rfl⟩ := List.mem_map.1 he
  rcases L_mem hy with ⟨t, ht, rfl⟩ | ⟨t, ht, rfl⟩ <;> simp [A, B, note] <;> omega)
theorem ix_add (t : Nat) : ixI (isT (t : Int)) (L t 0) = -1 := ix_none _ (fun e he => by
  rcases L_mem he with ⟨t, ht, rfl⟩ | ⟨t, ht, rfl⟩ <;> simp [A] <;> omega)
theorem L_add (t : Nat) : L t 0 ++ [fresh ⟨(t : Int), (t : Int) + 1, 0, 2, 7, 0, .slice none 0 0, [], false⟩] = L (t + 1) 0 := by
  simp [L, List.range_succ, A, fresh]

/-- Those behind the first. -/
def R (m c : Nat) : List En := (List.range m).map (fun t => A c (t + 1)) ++ (List.range c).map (B c)
theorem L_cons (m c : Nat) : L (m + 1) c = A c 0 :: R m c := by
  simp [L, R, List.range_succ_eq_map, List.map_map, Function.comp_def]
/-- Those behind the first, one Begin and End later. -/
def T (m c : Nat) : List En := (R m c).map (fun e => tick (note e))
theorem T_len (m c : Nat) : (T m c).length = m + c := by simp [T, R]
theorem T_get {m c : Nat} (j : Nat) (hj : j < m) : (T m c)[j]? = some (A ((c + 1 : Nat) : Int) (j + 1)) := by
  have : (R m c)[j]? = some (A c (j + 1)) := by
    simp only [R]
    rw [List.getElem?_append_left (by simpa using hj)]
    simp [hj]
  simp only [T, List.getElem?_map, this, Option.map_some, tick_A]
theorem T_mem {m c : Nat} {e : En} (h : e ∈ T m c) : e.state = 0 ∧ e.thread ≠ 0 := by
  obtain ⟨y, hy, rfl⟩ := List.mem_map.1 h
  rcases List.mem_append.1 hy with hy | hy
  · obtain ⟨t, _, rfl⟩ := List.mem_map.1 hy
    rw [tick_A]
    exact ⟨rfl, by simp [A]; omega⟩
  · obtain ⟨t, _, rfl⟩ := List.mem_map.1 hy
    rw [tick_B]
    exact ⟨rfl, by simp [B]; omega⟩
theorem T_waits (m c : Nat) : (T m c).countP isW = m + c := by
  rw [List.countP_eq_length.2 (fun e he => by simp [isW, (T_mem he).1]), T_len]
theorem G_cyc {n i : Nat} (hi : i ≤ 20) (gv : Value) : ∀ e ∈ ((L n i).set 0 (granted (A i 0) gv [1, 2] 5)).map note, 0 ≤ e.cycles ∧ e.cycles ≤ 100000 := fun e he => by
  obtain ⟨y, hy, rfl⟩ := List.mem_map.1 he
  rcases List.mem_or_eq_of_mem_set hy with hy | rfl
  · exact L_cyc hi y hy
  · simp [note, granted, A]
    omega
/-- The first, granted. -/
def G (c : Int) (gv : Value) : En := ⟨0, 1, 0, 1, c, 5, gv, [1, 2], false⟩
theorem G_list (m c : Nat) (gv : Value) : (((L (m + 1) c).set 0 (granted (A c 0) gv [1, 2] 5)).map note).map tick = G c gv :: T m c := by
  rw [L_cons, List.set_cons_zero, List.map_cons, List.map_cons, List.map_map]
  congr 1
theorem ix_G0 (m c : Nat) (gv : Value) : ixI (isT 0) (G c gv :: T m c) = ((0 : Nat) : Int) := ixI_at (k := 0) (e := G c gv) rfl rfl (fun j hj => by omega)
theorem ix_Gm (m c : Nat) (gv : Value) (hm : 0 < m) : ixI (isT (m : Int)) (G c gv :: T m c) = (m : Int) := by
  obtain ⟨k, rfl⟩ : ∃ k, m = k + 1 := ⟨m - 1, by omega⟩
  refine ixI_at (k := k + 1) (e := A ((c + 1 : Nat) : Int) (k + 1)) ?_ (by simp [isT, A]) (fun j hj t ht => ?_)
  · rw [List.getElem?_cons_succ, T_get k (by omega)]
  · cases j with
    | zero => simp at ht; subst ht; simp [isT, G]; omega
    | succ j =>
      rw [List.getElem?_cons_succ, T_get j (by omega)] at ht
      simp at ht
      subst ht
      simp [isT, A]
      omega
theorem ix_T0 (m c : Nat) : ixI (isT 0) (T m c) = -1 := ix_none _ (fun _ he => (T_mem he).2)
theorem ix_L0 (m c : Nat) : ixI (isT 0) (L (m + 1) c) = ((0 : Nat) : Int) := by rw [L_cons]; exact ixI_at (k := 0) (e := A c 0) rfl rfl (fun j hj => by omega)
theorem ix_W (m c : Nat) : ixI isW (L (m + 1) c) = ((0 : Nat) : Int) := by rw [L_cons]; exact ixI_at (k := 0) (e := A c 0) rfl rfl (fun j hj => by omega)
theorem two_ints (w : World) : SlI (w.alloc (.cells #[.int .i64 1, .int .i64 2] 3)) (w.alloc (.cells #[.int .i64 1, .int .i64 2] 3)).heap.size (.slice (some ⟨w.heap.size, 0, none⟩) 2 2) [1, 2] := by
  have h := World.ownsRow_lit (e := 3) (size := 1) (base := 0) w #[.int .i64 1, .int .i64 2] 2 (Nat.zero_le _) (by simp [maxLen]) rfl
  exact SlI.of_own (xs := [1, 2]) h (by simp)

set_option maxRecDepth 100000 in
theorem out (n c : Int) (w : World) (h : n < 1 ∨ 50 < n ∨ c < 0 ∨ 20 < c) :
    Calls Try.prog 5 #[.int .i64 n, .int .i64 c] w fun e w' => e = .returned (.bool true) ∧ Pure w w' := by
  have go : ∀ (H : (n < 1) ∨ (¬ n < 1 ∧ 50 < n) ∨ (¬ n < 1 ∧ ¬ 50 < n ∧ c < 0) ∨ (¬ n < 1 ∧ ¬ 50 < n ∧ ¬ c < 0 ∧ 20 < c)), Calls Try.prog 5 #[.int .i64 n, .int .i64 c] w fun e w' => e = .returned (.bool true) ∧ Pure w w' := by
    intro H
    clear h
    rcases H with h1 | ⟨h1, h2⟩ | ⟨h1, h2, h3⟩ | ⟨h1, h2, h3, h4⟩
    all_goals
      go_enter Try.func5, Try.ntmps5
      go_wp2_with fail
      refine (first_look _).mono ?_
      rintro e w1 ⟨rfl, hp1⟩
      have P1 := Lib.hid hp1
      clear hp1
      go_wp2_with fail
      refine (new_any w1).mono ?_
      rintro e w2 ⟨rfl, rfl⟩
      go_wp2_with fail
      refine (first_look _).mono ?_
      rintro e w2 ⟨rfl, hp2⟩
      have P2 := Lib.hid hp2
      clear hp2
      go_wp2_with fail
      go_ret
      exact ⟨rfl, Pure.then (P1.out.alloc _) P2.out⟩
  exact go (by omega)

set_option maxRecDepth 100000 in
set_option maxHeartbeats 1000000 in
theorem main (n c : Nat) (w : World) (h1 : 1 ≤ n) (h8 : n ≤ 50) (hc : c ≤ 20) :
    Calls Try.prog 5 #[.int .i64 n, .int .i64 c] w fun e w' => e = .returned (.bool true) ∧ Pure w w' := by
  go_enter Try.func5, Try.ntmps5
  go_wp2_with fail
  refine (first_look _).mono ?_
  rintro e w1 ⟨rfl, hp1⟩
  have P1 := Lib.hid hp1
  clear hp1
  go_wp2_with fail
  refine (new_any w1).mono ?_
  rintro e w2 ⟨rfl, rfl⟩
  have D0 := Lib.hid (show Cy w (w1.alloc (.cells #[.slice none 0 0] 50)) w1.heap.size (.slice none 0 0) [] from ⟨line_new w1, fun k hk => by
    rcases hk with rfl | hk
    · exact P1.out.size
    · simp [Value.ownBlock] at hk, P1.out.alloc _⟩)
  generalize w1.alloc (.cells #[.slice none 0 0] 50) = W2 at *
  generalize w1.heap.size = P at *
  go_wp2_with fail
  have n1 : (1 : Int) ≤ (n : Int) := by omega
  go_loopw [6] (fun i wr => ∃ (j : Nat) (v : Value), j ≤ n ∧ i = .int .i64 j ∧ Cy w wr P v (L j 0)) (fun i _ => n - (intOf i).toNat)
  case atStart => exact ⟨0, _, Nat.zero_le _, rfl, D0.out⟩
  case round =>
    obtain ⟨j, v, hj, rfl, hD⟩ := hrel
    have HD := Lib.hid hD
    clear hD
    by_cases hlt : j < n
    · have hlt' : (j : Int) < (n : Int) := by omega
      go_wp2_with fail
      refine (add_yes P v (L j 0) ⟨(j : Int), (j : Int) + 1, 0, 2, 7, 0, .slice none 0 0, [], false⟩ none 0 0 _ HD.out.line (ix_add j) (by rw [L_len]; omega)).mono ?_
      rintro e w3 ⟨v3, rfl, hl3, ho3, hat3⟩
      rw [L_add] at hl3
      have D3 := Lib.hid (HD.out.step hl3 ho3 hat3)
      clear hl3 ho3 hat3
      go_wp2_with fail
      go_roundw
      case rel => exact ⟨j + 1, v3, hlt, by go_num, D3.out⟩
      case measure => simp [intOf]; omega
    · obtain rfl : j = n := by omega
      clear hlt hj
      go_wp2_with fail
      have c1 : (0 : Int) ≤ (c : Int) := by omega
      go_loopw [7] (fun i wr => ∃ (k : Nat) (v : Value), k ≤ c ∧ i = .int .i64 k ∧ Cy w wr P v (L j k)) (fun i _ => c - (intOf i).toNat)
      case atStart => exact ⟨0, v, Nat.zero_le _, rfl, HD.out⟩
      case round =>
        obtain ⟨k, v, hk, rfl, hD⟩ := hrel
        have HD := Lib.hid hD
        clear hD
        by_cases hlt : k < c
        · have hlt' : (k : Int) < (c : Int) := by omega
          go_wp2_with fail
          refine (end_any P v (L j k) _ HD.out.line (L_cyc (by omega))).mono ?_
          rintro e w3 ⟨rfl, hl3, ho3⟩
          rw [L_quiet] at hl3
          have D3 := Lib.hid (HD.out.step hl3 ho3 (.inl rfl))
          clear hl3 ho3
          go_wp2_with fail
          refine (begin_any P v (L j k) _ D3.out.line).mono ?_
          rintro e w4 ⟨rfl, hl4, ho4⟩
          have D4 := Lib.hid (D3.out.step hl4 ho4 (.inl rfl))
          clear hl4 ho4
          go_wp2_with fail
          refine (add_yes P v ((L j k).map note) ⟨1000 + (k : Int), 0, 0, 0, 0, 0, .slice none 0 0, [], false⟩ none 0 0 _ D4.out.line (ix_new j k h8) (by rw [List.length_map, L_len]; omega)).mono ?_
          rintro e w5 ⟨v5, rfl, hl5, ho5, hat5⟩
          have D5 := Lib.hid (D4.out.step hl5 ho5 hat5)
          clear hl5 ho5 hat5
          go_wp2_with fail
          refine (end_any P v5 _ _ D5.out.line (note_cyc (L_cyc (by omega)) (by simp [fresh]))).mono ?_
          rintro e w6 ⟨rfl, hl6, ho6⟩
          rw [L_round] at hl6
          have D6 := Lib.hid (D5.out.step hl6 ho6 (.inl rfl))
          clear hl6 ho6
          go_wp2_with fail
          go_roundw
          case rel => exact ⟨k + 1, v5, hlt, by go_num, D6.out⟩
          case measure => simp [intOf]; omega
        · obtain rfl : k = c := by omega
          clear hlt hk
          obtain ⟨m, hm⟩ : ∃ m, j = m + 1 := ⟨j - 1, by omega⟩
          have HM := Lib.hid hm
          clear hm
          go_wp2_with fail
          refine (lineOf_in P v (L j k) 0 (A k 0) 0 _ HD.out.line (L_get 0 (by omega)) (by rw [HM.out]; exact ix_L0 m k)).mono ?_
          rintro e w3 ⟨A3, c3, rfl, hp3, _, _⟩
          dsimp only [A, reqV, List.length_nil]
          have D4 := Lib.hid (HD.out.keep (hp3.alloc (.cells #[.int .i64 0, .int .i64 1, .int .i64 0, .int .i64 0, .int .i64 k, .int .i64 (-1), .slice A3 0 c3] 28)))
          clear hp3
          go_upto_region 21 with fail
          generalize w3.alloc (.cells #[.int .i64 0, .int .i64 1, .int .i64 0, .int .i64 0, .int .i64 k, .int .i64 (-1), .slice A3 0 c3] 28) = W4 at *
          have D5 := Lib.hid (D4.out.keep ((Only.refl _ _).alloc (.cells #[.int .i64 1, .int .i64 2] 3)))
          go_wp2_with fail
          refine (grant_yes P v (L j k) 0 (A k 0) _ [1, 2] 5 _ D5.out.line (L_get 0 (by omega)) (by rw [HM.out]; exact ix_W m k) (two_ints _) (by simp)).mono ?_
          rintro e w6 ⟨gv, rfl, hl6, ho6, _⟩
          have D6 := Lib.hid (D5.out.step hl6 ho6 (.inl rfl))
          clear hl6 ho6
          go_wp2_with fail
          refine (begin_any P v _ _ D6.out.line).mono ?_
          rintro e w7 ⟨rfl, hl7, ho7⟩
          have D7 := Lib.hid (D6.out.step hl7 ho7 (.inl rfl))
          clear hl7 ho7
          go_wp2_with fail
          refine (end_any P v _ _ D7.out.line (G_cyc (by omega) gv)).mono ?_
          rintro e w8 ⟨rfl, hl8, ho8⟩
          have D8 := Lib.hid (D7.out.step (l2 := G k gv :: T m k) (by rw [HM.out, G_list] at hl8; exact hl8) ho8 (.inl rfl))
          clear hl8 ho8
          go_wp2_with fail
          refine (lineOf_in P v _ 0 (G k gv) 0 _ D8.out.line rfl (ix_G0 m k gv)).mono ?_
          rintro e w9 ⟨A9, c9, rfl, hp9, hs9, _⟩
          dsimp only [G, reqV, List.length_cons, List.length_nil]
          have hp10 := (Only.refl (fun _ => False) w9).alloc (.cells #[.int .i64 0, .int .i64 1, .int .i64 0, .int .i64 1, .int .i64 k, .int .i64 5, .slice A9 2 c9] 28)
          have D10 := Lib.hid (D8.out.keep (Pure.then hp9 hp10))
          have HX10 := Lib.hid (heap_alloc_new w9 (.cells #[.int .i64 0, .int .i64 1, .int .i64 0, .int .i64 1, .int .i64 k, .int .i64 5, .slice A9 2 c9] 28))
          have S10 := Lib.hid (SlI.only (v := .slice A9 2 c9) (xs := [1, 2]) hs9 hp10 (fun _ _ f => f))
          clear hp9 hs9 hp10
          obtain ⟨e, he, hix, hcy⟩ : ∃ e, (G k gv :: T m k)[m]? = some e ∧ ixI (isT ((j : Int) - 1)) (G k gv :: T m k) = (m : Int) ∧ (j = 1 ∨ e.cycles = (k : Int) + 1) := by
            have hj : (j : Int) - 1 = (m : Int) := by have := HM.out; omega
            rw [hj]
            rcases Nat.eq_zero_or_pos m with h0 | h0
            · subst h0
              exact ⟨_, rfl, ix_G0 0 k gv, .inl HM.out⟩
            · obtain ⟨q, rfl⟩ : ∃ q, m = q + 1 := ⟨m - 1, by omega⟩
              exact ⟨A ((k + 1 : Nat) : Int) (q + 1), by rw [List.getElem?_cons_succ, T_get q (by omega)], ix_Gm (q + 1) k gv h0, .inr (by simp [A])⟩
          have HE := Lib.hid he
          have HIX := Lib.hid hix
          have HCY := Lib.hid hcy
          clear he hix hcy
          go_wp2_with fail
          refine (lineOf_in P v _ m e ((j : Int) - 1) _ D10.out.line HE.out HIX.out).mono ?_
          rintro e9 w11 ⟨A11, c11, rfl, hp11, _, _⟩
          have hp12 := (Only.refl (fun _ => False) w11).alloc (.cells #[.int .i64 e.thread, .int .i64 e.frags, .int .i64 e.spine, .int .i64 e.state, .int .i64 e.cycles, .int .i64 e.at_, .slice A11 e.got.length c11] 28)
          have D12 := Lib.hid (D10.out.keep (Pure.then hp11 hp12))
          have HX12 := Lib.hid ((Pure.then hp11 hp12).block _ (Array.getElem?_eq_some_iff.1 HX10.out).1 (fun f => f) |>.trans HX10.out)
          have HY12 := Lib.hid (heap_alloc_new w11 (.cells #[.int .i64 e.thread, .int .i64 e.frags, .int .i64 e.spine, .int .i64 e.state, .int .i64 e.cycles, .int .i64 e.at_, .slice A11 e.got.length c11] 28))
          have S12 := Lib.hid (S10.out.only (Pure.then hp11 hp12) (fun _ _ f => f))
          clear hp11 hp12
          by_cases hj1 : j = 1
          · have z1 : ((j : Int) == 1) = true := by subst hj1; rfl
            clear hj1
            go_wp2_with fail
            refine (first_look _).mono ?_
            rintro e13 w13 ⟨rfl, hp13⟩
            have D13 := Lib.hid (D12.out.keep hp13)
            have hx13 := (hp13.block _ (Array.getElem?_eq_some_iff.1 HX12.out).1 (fun f => f)).trans HX12.out
            have hy13 := (hp13.block _ (Array.getElem?_eq_some_iff.1 HY12.out).1 (fun f => f)).trans HY12.out
            obtain ⟨_, _, _, x3, x4, x5, x6, _⟩ := seven hx13
            obtain ⟨_, _, _, _, y4, _⟩ := seven hy13
            have S13 := Lib.hid ((S12.out).only hp13 (fun _ _ f => f))
            clear hp13 hx13 hy13
            go_wp2_with fail
            refine (ints_any _ _ [1, 2] [1, 2] _ (S13.out.only ((Only.refl (fun _ => False) w13).alloc (.cells #[.int .i64 1, .int .i64 2] 3)) (fun _ _ f => f)) (two_ints w13)).mono ?_
            rw [sameI_self]
            rintro e14 w14 ⟨rfl, d14, rfl⟩
            have D14 := Lib.hid (D13.out.keep (((Only.refl _ _).alloc (.cells #[.int .i64 1, .int .i64 2] 3)).drewN d14))
            have y14 := Pure.keep (((Only.refl _ _).alloc (.cells #[.int .i64 1, .int .i64 2] 3)).drewN d14) y4
            clear y4
            go_wp2_with fail
            refine (drop_yes P v _ 0 0 _ D14.out.line (ix_G0 m k gv) (by simp)).mono ?_
            rintro e15 w15 ⟨v15, rfl, hl15, ho15, hb15⟩
            have D15 := Lib.hid (D14.out.step hl15 ho15 (.inl hb15))
            clear hl15 ho15 hb15
            go_wp2_with fail
            refine (drop_no P v15 (T m k) 0 _ D15.out.line (ix_T0 m k)).mono ?_
            rintro e16 w16 ⟨rfl, hp16⟩
            have D16 := Lib.hid (D15.out.keep hp16)
            clear hp16
            go_wp2_with fail
            refine (waits_any P v15 (T m k) _ D16.out.line).mono ?_
            have hw : ((((T m k).countP isW : Nat) : Int) == (j : Int) - 1 + (k : Int)) = true := by rw [T_waits]; have := HM.out; simp; omega
            generalize (((T m k).countP isW : Nat) : Int) = nw at *
            rintro e17 w17 ⟨rfl, hp17⟩
            have P17 := Lib.hid (Pure.then D16.out.pure hp17)
            clear hp17
            go_wp2_with fail
            go_ret
            exact ⟨rfl, P17.out⟩
          · have z1 : ((j : Int) == 1) = false := by rw [beq_eq_false_iff_ne]; omega
            have z2 : (e.cycles == (k : Int) + 1) = true := by
              rcases HCY.out with h | h
              · exact absurd h hj1
              · rw [h]; simp
            clear hj1
            go_wp2_with fail
            refine (first_look _).mono ?_
            rintro e13 w13 ⟨rfl, hp13⟩
            have D13 := Lib.hid (D12.out.keep hp13)
            have hx13 := (hp13.block _ (Array.getElem?_eq_some_iff.1 HX12.out).1 (fun f => f)).trans HX12.out
            have hy13 := (hp13.block _ (Array.getElem?_eq_some_iff.1 HY12.out).1 (fun f => f)).trans HY12.out
            obtain ⟨_, _, _, x3, x4, x5, x6, _⟩ := seven hx13
            obtain ⟨_, _, _, _, y4, _⟩ := seven hy13
            have S13 := Lib.hid ((S12.out).only hp13 (fun _ _ f => f))
            clear hp13 hx13 hy13
            go_wp2_with fail
            refine (ints_any _ _ [1, 2] [1, 2] _ (S13.out.only ((Only.refl (fun _ => False) w13).alloc (.cells #[.int .i64 1, .int .i64 2] 3)) (fun _ _ f => f)) (two_ints w13)).mono ?_
            rw [sameI_self]
            rintro e14 w14 ⟨rfl, d14, rfl⟩
            have D14 := Lib.hid (D13.out.keep (((Only.refl _ _).alloc (.cells #[.int .i64 1, .int .i64 2] 3)).drewN d14))
            have y14 := Pure.keep (((Only.refl _ _).alloc (.cells #[.int .i64 1, .int .i64 2] 3)).drewN d14) y4
            clear y4
            go_wp2_with fail
            refine (drop_yes P v _ 0 0 _ D14.out.line (ix_G0 m k gv) (by simp)).mono ?_
            rintro e15 w15 ⟨v15, rfl, hl15, ho15, hb15⟩
            have D15 := Lib.hid (D14.out.step hl15 ho15 (.inl hb15))
            clear hl15 ho15 hb15
            go_wp2_with fail
            refine (drop_no P v15 (T m k) 0 _ D15.out.line (ix_T0 m k)).mono ?_
            rintro e16 w16 ⟨rfl, hp16⟩
            have D16 := Lib.hid (D15.out.keep hp16)
            clear hp16
            go_wp2_with fail
            refine (waits_any P v15 (T m k) _ D16.out.line).mono ?_
            have hw : ((((T m k).countP isW : Nat) : Int) == (j : Int) - 1 + (k : Int)) = true := by rw [T_waits]; have := HM.out; simp; omega
            generalize (((T m k).countP isW : Nat) : Int) = nw at *
            rintro e17 w17 ⟨rfl, hp17⟩
            have P17 := Lib.hid (Pure.then D16.out.pure hp17)
            clear hp17
            go_wp2_with fail
            go_ret
            exact ⟨rfl, P17.out⟩

theorem walk (w : World) (n : Int) (_ : -9223372036854775808 ≤ n ∧ n ≤ 9223372036854775807) (c : Int) (_ : -9223372036854775808 ≤ c ∧ c ≤ 9223372036854775807) :
    Calls Try.prog 5 #[.int .i64 n, .int .i64 c] w fun e w' => e = .returned (.bool true) ∧ Pure w w' := by
  by_cases h : n < 1 ∨ 50 < n ∨ c < 0 ∨ 20 < c
  · exact out n c w h
  · obtain ⟨m, rfl⟩ := Int.eq_ofNat_of_zero_le (show 0 ≤ n by omega)
    obtain ⟨d, rfl⟩ := Int.eq_ofNat_of_zero_le (show 0 ≤ c by omega)
    exact main m d w (by omega) (by omega) (by omega)

set_option maxRecDepth 100000 in
theorem lifted (os : Os) (started : os.Started) (H : Type) (enc : TypeId × Value → H) :
    ReturnsInHanded {} Try.checked os 5 .any (Rows.lineCyclesSpec.pre6 enc Try.prog Try.f5 Rows.lineCyclesRow.domain false) (Rows.lineCyclesSpec.post enc Try.prog Try.f5 false true false false) :=
  lift_law (C := Try.checked) own started (by kernel_rfl) Try.func5 laidOut (by kernel_rfl) rfl rfl Try.underlying4
    (fun ds h => by match ds, h with | [_, _], _ => rfl)
    (ChangeSpec.witness6 (enc := enc) (C := Try.checked) false ⟨#[], #[.int .i64 0, .int .i64 0], []⟩ 8 (by kernel_rfl) (by kernel_rfl) (by kernel_rfl) (by kernel_rfl))
    (fun W base args ds ps hval hA hlt => by
      have hA' : DataW.TrodAll enc Try.prog W 0 (fun _ => true) true Try.f5.params.toList args.toList ds ps := hA
      rw [Try.params5] at hA'
      have hval' : ∀ (j : Nat) t v, Try.f5.params[j]? = some t → args[j]? = some v → Value.okWide Try.prog W .any base t v := hval
      rw [Try.params5] at hval'
      obtain ⟨v0, vs0, d0, ds0, p0, q0, hargs, rfl, rfl, h0, r0⟩ := trodAll_cons hA'
      obtain ⟨v1, vs1, d1, ds1, p1, q1, rfl, rfl, rfl, h1, r1⟩ := trodAll_cons r0
      obtain ⟨rfl, rfl, rfl⟩ := trodAll_nil r1
      obtain rfl : args = #[v0, v1] := by cases args; simp_all
      obtain ⟨a0, rfl, rfl, rfl, w0⟩ := open_int Try.underlying3 (hval' 0 3 v0 rfl rfl) h0
      obtain ⟨a1, rfl, rfl, rfl, w1⟩ := open_int Try.underlying3 (hval' 1 3 v1 rfl rfl) h1
      exact (walk W a0 (int_bounds w0) a1 (int_bounds w1)).mono fun e W' ⟨he, hp⟩ => ⟨he, hp.below⟩)

/-- The statement. -/
theorem proved : Rows.LineCyclesSaid :=
  OpenClaim.holds_of_wide 5 Try.f5 rfl rfl rfl rfl rfl rfl rfl ⟨rfl, rfl, rfl, rfl, rfl⟩ rfl rfl rfl rfl rfl (by kernel_rfl) Try.func5 (by kernel_rfl)
    (of_decide_eq_true (by kernel_rfl)) (by unfold Func.isWrapper; first | (rw [if_pos (by decide +kernel)]; kernel_rfl) | (rw [if_neg (by decide +kernel)]; exact ⟨rfl, rfl⟩))
    (fun os started H enc _ => lifted os started H enc)
#print axioms proved

end Go.Proofs.Ytmpomkejmokdlaa.lineCycles
