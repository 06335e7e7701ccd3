/-
  StockOrder: what comes out of a stock is what went in, in order. For every input.
-/
import Derived.Test.YtlnhehjdicpeoaaOp9
namespace Go.Proofs.Ytlnhehjdicpeoaa.stockOrder
open Go.RowKit Go.ChangeShapes Go.WideShapes Go.ChangeAt

/-! ### Plain -/
/-- Two rows and a stock side by side: what went in, what came out, what is kept; all in blocks of the call's own (from block B0 on). -/
structure Ord (B0 B : Nat) (most : Int) (vI vO vS : Value) (I O S : List Int) (w : World) : Prop where
  inn : w.ownsRow B0 3 1 vI I.length (ints I)
  out : w.ownsRow B0 3 1 vO O.length (ints O)
  stk : StkOf w B most vS S
  sum : I = O ++ S
  rngI : ∀ x ∈ I, -9223372036854775808 ≤ x ∧ x ≤ 9223372036854775807
  io : ∀ q, vI.ownBlock = some q → vO.ownBlock ≠ some q
  ib : ∀ q, vI.ownBlock = some q → ¬ StkS B vS q
  ob : ∀ q, vO.ownBlock = some q → ¬ StkS B vS q
  bB : B0 ≤ B
  sB : ∀ q, vS.ownBlock = some q → B0 ≤ q

section
variable {B0 B : Nat} {most : Int} {vI vO vS : Value} {I O S : List Int} {a b : World}
theorem Ord.pure (h : Ord B0 B most vI vO vS I O S a) (p : Pure a b) : Ord B0 B most vI vO vS I O S b :=
  ⟨p.own h.inn (fun _ _ f => f), p.own h.out (fun _ _ f => f), h.stk.only p (fun _ _ f => f), h.sum, h.rngI, h.io, h.ib, h.ob, h.bB, h.sB⟩
theorem Ord.rngO (h : Ord B0 B most vI vO vS I O S a) : ∀ x ∈ O, -9223372036854775808 ≤ x ∧ x ≤ 9223372036854775807 := fun x hx => h.rngI x (by rw [h.sum]; exact List.mem_append_left _ hx)
theorem Ord.len (h : Ord B0 B most vI vO vS I O S a) : I.length = O.length + S.length := by rw [h.sum, List.length_append]

/-- Behind Put: the stock keeps more. -/
theorem Ord.put (h : Ord B0 B most vI vO vS I O S a) {v' : Value} {xs : List Int} (hk : StkOf b B most v' (S ++ xs)) (ho : Only (StkS B vS) a b)
    (hat : v'.ownBlock = vS.ownBlock ∨ ∃ k, v'.ownBlock = some k ∧ a.heap.size ≤ k) (hB : B0 ≤ a.heap.size) (hx : ∀ x ∈ xs, -9223372036854775808 ≤ x ∧ x ≤ 9223372036854775807) :
    b.ownsRow B0 3 1 vI I.length (ints I) ∧ (∀ q, vI.ownBlock = some q → ¬ StkS B v' q) ∧ (∀ q, vO.ownBlock = some q → ¬ StkS B v' q) ∧ b.ownsRow B0 3 1 vO O.length (ints O) ∧ (∀ q, v'.ownBlock = some q → B0 ≤ q) := by
  refine ⟨ho.own h.inn h.ib, fun q hq e => ?_, fun q hq e => ?_, ho.own h.out h.ob, fun q hq => ?_⟩
  · rcases e with e | e
    · exact h.ib q hq (.inl e)
    · rcases hat with h' | ⟨k, h', hk'⟩
      · exact h.ib q hq (.inr (h' ▸ e))
      · rw [h'] at e; injection e with e
        have := (h.inn.lt q hq).2
        omega
  · rcases e with e | e
    · exact h.ob q hq (.inl e)
    · rcases hat with h' | ⟨k, h', hk'⟩
      · exact h.ob q hq (.inr (h' ▸ e))
      · rw [h'] at e; injection e with e
        have := (h.out.lt q hq).2
        omega
  · rcases hat with h' | ⟨k, h', hk'⟩
    · exact h.sB q (h'.symm.trans hq)
    · rw [h'] at hq; injection hq with hq; omega
end
/-- Behind Put and the append to what went in. -/
theorem Ord.put2 {B0 B : Nat} {most : Int} {vI vO vS v' vI' : Value} {I O S xs : List Int} {a b c : World} (h : Ord B0 B most vI vO vS I O S a) (hk : StkOf b B most v' (S ++ xs)) (ho : Only (StkS B vS) a b)
    (hat : v'.ownBlock = vS.ownBlock ∨ ∃ k, v'.ownBlock = some k ∧ a.heap.size ≤ k) (hB : B0 ≤ a.heap.size) (hx : ∀ x ∈ xs, -9223372036854775808 ≤ x ∧ x ≤ 9223372036854775807)
    (hI : c.ownsRow B0 3 1 vI' (I.length + xs.length) (ints I ++ ints xs)) (hg : b.grownBy c vI.ownBlock) (hat2 : vI'.ownBlock = vI.ownBlock ∨ vI'.ownBlock = some b.heap.size) :
    Ord B0 B most vI' vO v' (I ++ xs) O (S ++ xs) c := by
  obtain ⟨p1, p2, p3, p4, p5⟩ := h.put hk ho hat hB hx
  have hO : Only (fun q => vI.ownBlock = some q) b c := (Only.refl _ b).grown hg (fun _ _ e => e)
  have hv' : ∀ q, v'.ownBlock = some q → q < b.heap.size := fun q hq => (hk.own.lt q hq).2
  have hBb : B < b.heap.size := hk.at_.lt
  refine ⟨by rw [ints_append, List.length_append]; exact hI, hO.own p4 (fun q hq e => h.io q e hq), hk.only hO (fun q hq e => p2 q e hq), by rw [h.sum, List.append_assoc], ?_, ?_, ?_, p3, h.bB, p5⟩
  · intro x hx'
    rcases List.mem_append.1 hx' with hx' | hx'
    · exact h.rngI x hx'
    · exact hx x hx'
  · intro q hq e
    rcases hat2 with h' | h'
    · exact h.io q (h'.symm.trans hq) e
    · rw [h'] at hq; injection hq with hq
      have := (p4.lt q e).2
      omega
  · intro q hq e
    rcases hat2 with h' | h'
    · exact p2 q (h'.symm.trans hq) e
    · rw [h'] at hq; injection hq with hq
      rcases e with e | e
      · omega
      · have := hv' q e; omega
/-- Behind Take and the append to what came out. -/
theorem Ord.take2 {B0 B : Nat} {most : Int} {vI vO vS v1 v2 vO' : Value} {I O S : List Int} {k : Nat} {a b c : World} (h : Ord B0 B most vI vO vS I O S a) (hk : StkOf b B most v2 (S.drop k)) (ho : Only (fun i => i = B) a b)
    (hne : ∀ i, v2.ownBlock = some i → a.heap.size ≤ i) (hB : B0 ≤ a.heap.size)
    (hO' : c.ownsRow B0 3 1 vO' (O.length + (S.take k).length) (ints O ++ ints (S.take k))) (hg : b.grownBy c vO.ownBlock) (hat : vO'.ownBlock = vO.ownBlock ∨ vO'.ownBlock = some b.heap.size) :
    Ord B0 B most vI vO' v2 I (O ++ S.take k) (S.drop k) c := by
  have hi : b.ownsRow B0 3 1 vI I.length (ints I) := ho.own h.inn (fun q hq e => h.ib q hq (.inl e))
  have hO : Only (fun q => vO.ownBlock = some q) b c := (Only.refl _ b).grown hg (fun _ _ e => e)
  have hv2 : ∀ q, v2.ownBlock = some q → q < b.heap.size := fun q hq => (hk.own.lt q hq).2
  have hBb : B < b.heap.size := hk.at_.lt
  have hoa := fun q hq => (h.out.lt q hq).2
  have hia := fun q hq => (h.inn.lt q hq).2
  have hz := ho.size
  refine ⟨hO.own hi (fun q hq e => h.io q hq e), by rw [ints_append, List.length_append]; exact hO', hk.only hO (fun q hq e => ?_), by rw [h.sum, List.append_assoc, List.take_append_drop], h.rngI, ?_, ?_, ?_, h.bB, fun q hq => by have := hne q hq; omega⟩
  · rcases hq with hq | hq
    · exact h.ob q e (.inl hq)
    · have := hne q hq; have := hoa q e; omega
  · intro q hq e
    rcases hat with h' | h'
    · exact h.io q hq (h'.symm.trans e)
    · rw [h'] at e; injection e with e
      have := hia q hq
      omega
  · intro q hq e
    rcases e with e | e
    · exact h.ib q hq (.inl e)
    · have := hne q e; have := hia q hq; omega
  · intro q hq e
    rcases hat with h' | h'
    · rcases e with e | e
      · exact h.ob q (h'.symm.trans hq) (.inl e)
      · have := hne q e; have := hoa q (h'.symm.trans hq); omega
    · rw [h'] at hq; injection hq with hq
      rcases e with e | e
      · omega
      · have := hv2 q e; omega
/-- Behind the append of nothing to what came out. -/
theorem Ord.none2 {B0 B : Nat} {most : Int} {vI vO vS vO' : Value} {I O S : List Int} {b c : World} (h : Ord B0 B most vI vO vS I O S b)
    (hO' : c.ownsRow B0 3 1 vO' (O.length + 0) (ints O ++ [])) (hg : b.grownBy c vO.ownBlock) (hat : vO'.ownBlock = vO.ownBlock ∨ vO'.ownBlock = some b.heap.size) :
    Ord B0 B most vI vO' vS I O S c := by
  have hO : Only (fun q => vO.ownBlock = some q) b c := (Only.refl _ b).grown hg (fun _ _ e => e)
  have hS : ∀ q, StkS B vS q → q < b.heap.size := fun q hq => by
    rcases hq with hq | hq
    · subst hq; exact h.stk.at_.lt
    · exact (h.stk.own.lt q hq).2
  refine ⟨hO.own h.inn (fun q hq e => h.io q hq e), by simpa using hO', h.stk.only hO (fun q hq e => h.ob q e hq), h.sum, h.rngI, ?_, h.ib, ?_, h.bB, h.sB⟩
  · intro q hq e
    rcases hat with h' | h'
    · exact h.io q hq (h'.symm.trans e)
    · rw [h'] at e; injection e with e
      have := (h.inn.lt q hq).2
      omega
  · intro q hq e
    rcases hat with h' | h'
    · exact h.ob q (h'.symm.trans hq) e
    · rw [h'] at hq; injection hq with hq
      have := hS q e
      omega

theorem own_cap {w : World} {base : Nat} {e : TypeId} {size n c : Nat} {A : Option Addr} {xs : List Value} (h : w.ownsRow base e size (.slice A n c) n xs) : n ≤ c := by
  rcases h.2 with ⟨h, h0⟩ | ⟨g, cap, cur, h, _, _, hc, _⟩
  · injection h with _ h1 h2; omega
  · injection h with _ h1 h2; omega

set_option maxRecDepth 100000 in
theorem out1 (most : Int) (v : Value) (l : List Op9) (w : World) (hl : OpsR w w.heap.size v l) (h : most < 0 ∨ 8 < most) :
    Calls Try.prog 6 #[.int .i64 most, v] w fun e w' => e = .returned (.bool true) ∧ Pure w w' := by
  obtain ⟨⟨A, cc, rfl, h1, h2, h3⟩, h4⟩ := hl
  have H3 := Lib.hid h3
  have H4 := Lib.hid h4
  have H := Lib.hid h
  clear h3 h4 h
  go_enter Try.func6, Try.ntmps6
  go_wp2_with fail
  refine (first_any _).mono ?_
  rintro e w1 ⟨rfl, hp1⟩
  have P1 := Lib.hid hp1
  clear hp1
  go_wp2_with fail
  refine (new_no most w1 H.out).mono ?_
  rintro e w2 ⟨rfl, rfl⟩
  have PW := P1
  go_wp2_with fail
  go_loopw [7, 8] (fun n i wr => ∃ k m : Nat, k ≤ l.length ∧ k ≤ 200 ∧ m ≤ 2001 * k ∧ i = .int .i64 k ∧ n = .int .i64 m ∧ wr = w1) (fun _ i _ => 200 - (intOf i).toNat)
  case atStart => exact ⟨0, 0, Nat.zero_le _, by omega, by omega, by first | rfl | simp, by first | rfl | simp, rfl⟩
  case round =>
    obtain ⟨k, m, hk, hk2, hm, rfl, rfl, rfl⟩ := hrel
    by_cases hlt : k < l.length ∧ k < 200
    · obtain ⟨hlt, hlt2⟩ := hlt
      obtain ⟨b, off, hA, hb, hc⟩ := H3.out (by omega)
      subst hA
      obtain ⟨o, ho⟩ : ∃ o, l[k]? = some o := ⟨l[k], List.getElem?_eq_getElem hlt⟩
      obtain ⟨d1, d2, d3⟩ := hc k o ho
      obtain ⟨L, d, hv, hd1, hd2, _⟩ := (H4.out o (List.mem_of_getElem? ho)).1
      unfold maxLen at hd2
      rw [hv] at d3
      have d3' := PW.out.keep d3
      clear hc d1 d2 d3 ho hv
      by_cases hs : o.xs.length ≤ 2001
      · go_wp2_with fail
        go_roundw
        case rel => exact ⟨k + 1, m + o.xs.length, by omega, by omega, by omega, by first | rfl | simp, by first | rfl | (simp; done) | (simp; omega), by first | trivial | rfl⟩
        case measure => simp [intOf]; omega
      · go_wp2_with fail
        go_roundw
        case rel => exact ⟨k + 1, m + 2001, by omega, by omega, by omega, by first | rfl | simp, by first | rfl | (simp; done) | (simp; omega), by first | trivial | rfl⟩
        case measure => simp [intOf]; omega
    · rcases (by omega : k = l.length ∨ (k = 200 ∧ 200 < l.length)) with rfl | ⟨rfl, hlt3⟩
      · go_wp2_with fail
        refine (first_any _).mono ?_
        rintro e w8 ⟨rfl, hp8⟩
        have P8 := Lib.hid (Pure.then P1.out hp8)
        clear hp8
        go_wp2
        go_ret
        exact ⟨rfl, P8.out⟩
      · go_wp2_with fail
        refine (first_any _).mono ?_
        rintro e w8 ⟨rfl, hp8⟩
        have P8 := Lib.hid (Pure.then P1.out hp8)
        clear hp8
        go_wp2
        go_ret
        exact ⟨rfl, P8.out⟩

set_option maxRecDepth 100000 in
set_option maxHeartbeats 40000000 in
theorem main (most : Int) (v : Value) (l : List Op9) (w : World) (hl : OpsR w w.heap.size v l) (h0 : 0 ≤ most) (h8 : most ≤ 8) :
    Calls Try.prog 6 #[.int .i64 most, v] w fun e w' => e = .returned (.bool true) ∧ Pure w w' := by
  obtain ⟨i0, hi0, hz0, hz1, hz2⟩ := info_parts int_info
  obtain ⟨⟨A, cc, rfl, h1, h2, h3⟩, h4⟩ := hl
  have H3 := Lib.hid h3
  have H4 := Lib.hid h4
  clear h3 h4
  go_enter Try.func6, Try.ntmps6
  go_wp2_with fail
  refine (first_any _).mono ?_
  rintro e w1 ⟨rfl, hp1⟩
  have P1 := Lib.hid hp1
  clear hp1
  go_wp2_with fail
  refine (new_ok most w1 h0 h8).mono ?_
  rintro e w2 ⟨rfl, rfl⟩
  have k2 := stk_new w1 most h0 h8
  have o2 : Pure w (w1.alloc (.cells #[.slice none 0 0, .int .i64 most] 46)) := P1.out.alloc _
  have hB : w.heap.size ≤ w1.heap.size := P1.out.size
  generalize w1.alloc (.cells #[.slice none 0 0, .int .i64 most] 46) = W2 at *
  generalize w1.heap.size = B at *
  have PW := Lib.hid o2
  have ORD : Hid (Ord w.heap.size B most (.slice none 0 0) (.slice none 0 0) (.slice none 0 0) [] [] [] W2) := Lib.hid ⟨World.ownsRow_nil _ _ _ _, World.ownsRow_nil _ _ _ _, k2, rfl, by simp, by simp [Value.ownBlock], by simp [Value.ownBlock], by simp [Value.ownBlock], hB, by simp [Value.ownBlock]⟩
  clear k2 o2
  go_wp2_with fail
  go_loopw [7, 8] (fun n i wr => ∃ k m : Nat, k ≤ l.length ∧ k ≤ 200 ∧ m ≤ 2001 * k ∧ i = .int .i64 k ∧ n = .int .i64 m ∧ wr = W2) (fun _ i _ => 200 - (intOf i).toNat)
  case atStart => exact ⟨0, 0, Nat.zero_le _, by omega, by omega, by first | rfl | simp, by first | rfl | simp, rfl⟩
  case round =>
    obtain ⟨k, m, hk, hk2, hm, rfl, rfl, rfl⟩ := hrel
    by_cases hlt : k < l.length ∧ k < 200
    · obtain ⟨hlt, hlt2⟩ := hlt
      obtain ⟨b, off, hA, hb, hc⟩ := H3.out (by omega)
      subst hA
      obtain ⟨o, ho⟩ : ∃ o, l[k]? = some o := ⟨l[k], List.getElem?_eq_getElem hlt⟩
      obtain ⟨d1, d2, d3⟩ := hc k o ho
      obtain ⟨L, d, hv, hd1, hd2, _⟩ := (H4.out o (List.mem_of_getElem? ho)).1
      unfold maxLen at hd2
      rw [hv] at d3
      have d3' := PW.out.keep d3
      clear hc d1 d2 d3 ho hv
      by_cases hs : o.xs.length ≤ 2001
      · go_wp2_with fail
        go_roundw
        case rel => exact ⟨k + 1, m + o.xs.length, by omega, by omega, by omega, by first | rfl | simp, by first | rfl | (simp; done) | (simp; omega), by first | trivial | rfl⟩
        case measure => simp [intOf]; omega
      · go_wp2_with fail
        go_roundw
        case rel => exact ⟨k + 1, m + 2001, by omega, by omega, by omega, by first | rfl | simp, by first | rfl | (simp; done) | (simp; omega), by first | trivial | rfl⟩
        case measure => simp [intOf]; omega
    · rcases (by omega : k = l.length ∨ (k = 200 ∧ 200 < l.length)) with rfl | ⟨rfl, hlt3⟩
      · by_cases hm2 : m ≤ 2000
        · go_wp2_with fail
          go_loopw [9, 10, 11] (fun vi vo i wr => ∃ (k : Nat) (vS : Value) (I O S : List Int), k ≤ l.length ∧ i = .int .i64 k ∧ I.length ≤ 8 * k ∧ Ord w.heap.size B most vi vo vS I O S wr ∧ Pure w wr) (fun _ _ i _ => l.length - (intOf i).toNat)
          case atStart => exact ⟨0, _, [], [], [], Nat.zero_le _, by first | rfl | simp, by simp, ORD.out, PW.out⟩
          case round =>
            obtain ⟨k, vS, I, O, S, hk, rfl, hI8, hord, hp⟩ := hrel
            have HO := Lib.hid hord
            have HP := Lib.hid hp
            have hlen1 : I.length ≤ O.length + S.length := Nat.le_of_eq hord.len
            have hlen2 : O.length + S.length ≤ I.length := Nat.le_of_eq hord.len.symm
            have hle := hord.stk.le
            obtain ⟨AI, cI, rfl⟩ := own_form hord.inn
            obtain ⟨AO, cO, rfl⟩ := own_form hord.out
            have hYS := Lib.hid (show ¬ StkS B vS wr.heap.size from by
              rintro (e | e)
              · have := hord.stk.at_.lt; omega
              · have := (hord.stk.own.lt _ e).2; omega)
            have hbase := hp.size
            have hcapI := own_cap hord.inn
            clear hord hp
            by_cases hlt : k < l.length
            · obtain ⟨b, off, hA, hb, hc⟩ := H3.out (by omega)
              subst hA
              obtain ⟨o, ho⟩ : ∃ o, l[k]? = some o := ⟨l[k], List.getElem?_eq_getElem hlt⟩
              obtain ⟨d1, d2, d3⟩ := hc k o ho
              obtain ⟨hsl, hn0, hn1⟩ := H4.out o (List.mem_of_getElem? ho)
              have HSL := Lib.hid (fun c (hp : Pure w c) => (hsl.below hp.below).mono hp.size)
              obtain ⟨L, d, hv, hd1, hd2, hrng, _⟩ := hsl
              unfold maxLen at hd2
              rw [hv] at d3 HSL
              have HR := Lib.hid hrng
              have d1' := HP.out.keep d1
              have d2' := HP.out.keep d2
              have d3' := HP.out.keep d3
              have H4O := Lib.hid (HO.out.pure ((Only.refl _ wr).alloc (.cells #[.int .i64 o.kind, .int .i64 o.n, .slice L o.xs.length d] 37)))
              have P4 := Lib.hid (HP.out.alloc (.cells #[.int .i64 o.kind, .int .i64 o.n, .slice L o.xs.length d] 37))
              have hY := Lib.hid (heap_alloc_new wr (.cells #[.int .i64 o.kind, .int .i64 o.n, .slice L o.xs.length d] 37))
              clear hc d1 d2 d3 ho hv hrng
              rcases (by omega : o.kind = 0 ∨ o.kind = 1 ∨ o.kind = 2 ∨ (o.kind ≠ 0 ∧ o.kind ≠ 1 ∧ o.kind ≠ 2)) with hkd | hkd | hkd | ⟨hk0, hk1, hk2⟩
              · rw [hkd] at d1' H4O P4 hY
                clear hkd
                by_cases hf : (S.length : Int) + o.xs.length ≤ most
                · have hdec : decide ((o.xs.length : Int) ≤ most - ((I.length : Int) - (O.length : Int))) = true := by simp; omega
                  go_wp2_with fail
                  generalize wr.alloc (.cells #[.int .i64 0, .int .i64 o.n, .slice L o.xs.length d] 37) = W4 at *
                  generalize wr.heap.size = Y at hY hYS ⊢
                  have y1 : W4.cell? ⟨Y, 1, none⟩ = some (.int .i64 o.n) := by rw [cell_of_row _ _ _ _ _ _ hY.out]; rfl
                  have y2 : W4.cell? ⟨Y, 2, none⟩ = some (.slice L o.xs.length d) := by rw [cell_of_row _ _ _ _ _ _ hY.out]; rfl
                  refine (put_ok B most _ _ S o.xs _ H4O.out.stk (HSL.out _ P4.out) hf).mono ?_
                  rintro e W5 ⟨v5, rfl, k5, o5, hat5⟩
                  have hp5 : Pure w W5 := P4.out.trans o5 (fun i hi e => by
                    rcases e with e | e
                    · have := HO.out.bB; omega
                    · have := HO.out.sB i e; omega)
                  have z2 : W5.cell? ⟨Y, 2, none⟩ = some (.slice L o.xs.length d) := (o5.cell (p := ⟨Y, 2, none⟩) (Array.getElem?_eq_some_iff.1 hY.out).1 hYS.out).trans y2
                  have P5' := Lib.hid hp5
                  have hbase5 := hp5.size
                  have K5 := Lib.hid k5
                  have O5 := Lib.hid o5
                  have AT5 := Lib.hid hat5
                  have HB4 := Lib.hid (show w.heap.size ≤ W4.heap.size from P4.out.size)
                  have OWN5 := Lib.hid (H4O.out.put K5.out O5.out AT5.out HB4.out HR.out).1
                  have SRC5 := Lib.hid (HSL.out _ hp5).src.2
                  clear hp5 k5 o5 hat5 y1 y2
                  go_wp2_with (at_builtin; refine wpList_app _ rfl (.tmp 90) (.tmp 92) _ rfl w.heap.size 3 i0 _ 1 8 Try.underlying23 hi0 hz0 hz1 hz2 rfl (by omega) (.slice AI I.length cI) I.length (ints I) rfl OWN5.out L o.xs.length d (ints o.xs) rfl SRC5.out (ints_one _) (by simp only [maxLen]; omega) (by omega) hbase5 ?_; intro v6 w6 hown6 hg6 hat6; obtain ⟨A6, c6, rfl⟩ := own_form hown6; have hcap6 := own_cap hown6; have hN := H4O.out.put2 K5.out O5.out AT5.out HB4.out HR.out hown6 hg6 hat6; have N6 := Lib.hid hN; have P5 := Lib.hid (Only.grown P5'.out hg6 (fun i hi e => by have := (OWN5.out.lt i e).1; omega)); clear hN hown6 hg6 hat6)
                  have hsO := SlI.of_own N6.out.out N6.out.rngO
                  have hsI := (SlI.of_own N6.out.inn N6.out.rngI).take (O.length) (by have := N6.out.len; (try simp only [List.length_append, List.length_take, List.length_drop] at this); omega)
                  have htk : List.take (O.length) (I ++ o.xs) = O := by
                    have h := N6.out.sum
                    rw [h, show (O.length) = (O).length from by first | rfl | (simp only [List.length_append]; done) | (simp only [List.length_append, List.length_take]; omega) | omega, List.take_left]
                  rw [htk] at hsI
                  have HSO := Lib.hid hsO
                  have HSI := Lib.hid hsI
                  clear hsO hsI htk
                  refine (ints_any _ _ (O) (O) _ HSO.out HSI.out).mono ?_
                  rw [sameI_self]
                  rintro e w7 ⟨rfl, q7, rfl⟩
                  have N7 := Lib.hid (N6.out.pure ((Only.refl (fun _ => False) _).drewN q7))
                  obtain ⟨AS', cS', hvS, _⟩ := N6.out.stk.form
                  have HVS := Lib.hid hvS
                  clear hvS
                  have hne : (((S ++ o.xs).length : Int) != (I.length : Int) + (o.xs.length : Int) - (O.length : Int)) = false := by
                    have := N6.out.len
                    (try simp only [List.length_append, List.length_take, List.length_drop] at this)
                    (try simp only [List.length_append, List.length_take, List.length_drop])
                    rw [bne_eq_false_iff_eq]
                    (try simp only [List.length_nil] at *)
                    omega
                  have hat := N7.out.stk.at_
                  rw [HVS.out] at hat
                  have HAT := Lib.hid hat
                  clear hat
                  generalize hnS : (S ++ o.xs).length = nS at HAT hne
                  go_wp2_with fail
                  refine (len_any B AS' nS cS' most _ HAT.out).mono ?_
                  rintro e w8 ⟨rfl, rfl⟩
                  go_wp2_with fail
                  go_roundw
                  case rel => exact ⟨k + 1, v5, I ++ o.xs, O, S ++ o.xs, hlt, by first | rfl | simp, by simp only [List.length_append]; omega, N7.out, P5.out.drewN q7⟩
                  case measure => simp [intOf]; omega
                · have hdec : decide ((o.xs.length : Int) ≤ most - ((I.length : Int) - (O.length : Int))) = false := by simp; omega
                  go_wp2_with fail
                  generalize wr.alloc (.cells #[.int .i64 0, .int .i64 o.n, .slice L o.xs.length d] 37) = W4 at *
                  generalize wr.heap.size = Y at hY hYS ⊢
                  have y1 : W4.cell? ⟨Y, 1, none⟩ = some (.int .i64 o.n) := by rw [cell_of_row _ _ _ _ _ _ hY.out]; rfl
                  have y2 : W4.cell? ⟨Y, 2, none⟩ = some (.slice L o.xs.length d) := by rw [cell_of_row _ _ _ _ _ _ hY.out]; rfl
                  refine (put_no B most _ _ S o.xs _ H4O.out.stk (HSL.out _ P4.out) (by omega)).mono ?_
                  rintro e W5 ⟨rfl, d5, hw5⟩
                  have hp45 : Pure W4 W5 := hw5 ▸ (Only.refl (fun _ => False) W4).drewN d5
                  have N6 := Lib.hid (H4O.out.pure hp45)
                  have P5 := Lib.hid (Pure.then P4.out hp45)
                  clear hw5 hp45
                  go_wp2_with fail
                  have hsO := SlI.of_own N6.out.out N6.out.rngO
                  have hsI := (SlI.of_own N6.out.inn N6.out.rngI).take (O.length) (by have := N6.out.len; (try simp only [List.length_append, List.length_take, List.length_drop] at this); omega)
                  have htk : List.take (O.length) (I) = O := by
                    have h := N6.out.sum
                    rw [h, show (O.length) = (O).length from by first | rfl | (simp only [List.length_append]; done) | (simp only [List.length_append, List.length_take]; omega) | omega, List.take_left]
                  rw [htk] at hsI
                  have HSO := Lib.hid hsO
                  have HSI := Lib.hid hsI
                  clear hsO hsI htk
                  refine (ints_any _ _ (O) (O) _ HSO.out HSI.out).mono ?_
                  rw [sameI_self]
                  rintro e w7 ⟨rfl, q7, rfl⟩
                  have N7 := Lib.hid (N6.out.pure ((Only.refl (fun _ => False) _).drewN q7))
                  obtain ⟨AS', cS', hvS, _⟩ := N6.out.stk.form
                  have HVS := Lib.hid hvS
                  clear hvS
                  have hne : (((S).length : Int) != (I.length : Int) - (O.length : Int)) = false := by
                    have := N6.out.len
                    (try simp only [List.length_append, List.length_take, List.length_drop] at this)
                    (try simp only [List.length_append, List.length_take, List.length_drop])
                    rw [bne_eq_false_iff_eq]
                    (try simp only [List.length_nil] at *)
                    omega
                  have hat := N7.out.stk.at_
                  rw [HVS.out] at hat
                  have HAT := Lib.hid hat
                  clear hat
                  generalize hnS : (S).length = nS at HAT hne
                  go_wp2_with fail
                  refine (len_any B AS' nS cS' most _ HAT.out).mono ?_
                  rintro e w8 ⟨rfl, rfl⟩
                  go_wp2_with fail
                  go_roundw
                  case rel => exact ⟨k + 1, vS, I, O, S, hlt, by first | rfl | simp, by omega, N7.out, P5.out.drewN q7⟩
                  case measure => simp [intOf]; omega
              · rw [hkd] at d1' H4O P4 hY
                clear hkd
                by_cases hf : 1 ≤ o.n ∧ o.n ≤ S.length
                · obtain ⟨hf1, hf2⟩ := hf
                  obtain ⟨kk, hkk⟩ := Int.eq_ofNat_of_zero_le (show 0 ≤ o.n by omega)
                  rw [hkk] at d2' H4O P4 hY hf1 hf2
                  clear hkk hn0 hn1
                  have hk1 : 1 ≤ kk := by omega
                  have hkn : kk ≤ S.length := by omega
                  have hdec : decide ((kk : Int) ≤ (I.length : Int) - (O.length : Int)) = true := by simp; omega
                  go_wp2_with fail
                  generalize wr.alloc (.cells #[.int .i64 1, .int .i64 (kk : Int), .slice L o.xs.length d] 37) = W4 at *
                  generalize wr.heap.size = Y at hY hYS ⊢
                  have y1 : W4.cell? ⟨Y, 1, none⟩ = some (.int .i64 (kk : Int)) := by rw [cell_of_row _ _ _ _ _ _ hY.out]; rfl
                  have y2 : W4.cell? ⟨Y, 2, none⟩ = some (.slice L o.xs.length d) := by rw [cell_of_row _ _ _ _ _ _ hY.out]; rfl
                  refine (take_ok B most kk _ S _ H4O.out.stk hk1 hkn).mono ?_
                  rintro e W5 ⟨v1, v2, rfl, k5, ho5, o5, hne5⟩
                  obtain ⟨A1, c1, rfl⟩ := own_form ho5
                  have hp5 : Pure w W5 := P4.out.trans o5 (fun i hi e => by have := HO.out.bB; omega)
                  have z1 : W5.cell? ⟨Y, 1, none⟩ = some (.int .i64 (kk : Int)) := (o5.cell (p := ⟨Y, 1, none⟩) (Array.getElem?_eq_some_iff.1 hY.out).1 (fun e => hYS.out (.inl e))).trans y1
                  have hk2 : (S.take kk).length = kk := by rw [List.length_take]; omega
                  have P5' := Lib.hid hp5
                  have hbase5 := hp5.size
                  have K5 := Lib.hid k5
                  have O5 := Lib.hid o5
                  have NE5 := Lib.hid (fun i e => (hne5 i e).1)
                  have HB4 := Lib.hid (show w.heap.size ≤ W4.heap.size from P4.out.size)
                  have OWN5 := Lib.hid (O5.out.own H4O.out.out (fun q hq e => H4O.out.ob q hq (.inl e)))
                  have SRC5 := Lib.hid (SlI.of_own ho5 (fun x hx => H4O.out.stk.rng x (List.mem_of_mem_take hx))).src.2
                  have HK2 := Lib.hid hk2
                  clear hp5 k5 ho5 o5 hne5 y1 y2 hk2
                  go_wp2_with (at_builtin; refine wpList_app _ rfl (.tmp 118) (.tmp 119) _ rfl w.heap.size 3 i0 _ 1 8 Try.underlying23 hi0 hz0 hz1 hz2 rfl (by omega) (.slice AO O.length cO) O.length (ints O) rfl OWN5.out A1 kk c1 (ints (S.take kk)) rfl SRC5.out (ints_one _) (by simp only [maxLen]; omega) (by omega) hbase5 ?_; intro v6 w6 hown6 hg6 hat6; obtain ⟨A6, c6, rfl⟩ := own_form hown6; have hN := H4O.out.take2 (v1 := .slice none 0 0) K5.out O5.out NE5.out HB4.out (by rw [HK2.out]; exact hown6) hg6 hat6; have N6 := Lib.hid hN; have P5 := Lib.hid (Only.grown P5'.out hg6 (fun i hi e => by have := (OWN5.out.lt i e).1; omega)); clear hN hown6 hg6 hat6)
                  have hsO := SlI.of_own N6.out.out N6.out.rngO
                  have hsI := (SlI.of_own N6.out.inn N6.out.rngI).take (O.length + kk) (by have := N6.out.len; (try simp only [List.length_append, List.length_take, List.length_drop] at this); omega)
                  have htk : List.take (O.length + kk) (I) = O ++ S.take kk := by
                    have h := N6.out.sum
                    rw [h, show (O.length + kk) = (O ++ S.take kk).length from by first | rfl | (simp only [List.length_append]; done) | (simp only [List.length_append, List.length_take]; omega) | omega, List.take_left]
                  rw [htk] at hsI
                  have HSO := Lib.hid hsO
                  have HSI := Lib.hid hsI
                  clear hsO hsI htk
                  refine (ints_any _ _ (O ++ S.take kk) (O ++ S.take kk) _ HSO.out HSI.out).mono ?_
                  rw [sameI_self]
                  rintro e w7 ⟨rfl, q7, rfl⟩
                  have N7 := Lib.hid (N6.out.pure ((Only.refl (fun _ => False) _).drewN q7))
                  obtain ⟨AS', cS', hvS, _⟩ := N6.out.stk.form
                  have HVS := Lib.hid hvS
                  clear hvS
                  have hne : (((S.drop kk).length : Int) != (I.length : Int) - ((O.length : Int) + (kk : Int))) = false := by
                    have := N6.out.len
                    (try simp only [List.length_append, List.length_take, List.length_drop] at this)
                    (try simp only [List.length_append, List.length_take, List.length_drop])
                    rw [bne_eq_false_iff_eq]
                    (try simp only [List.length_nil] at *)
                    omega
                  have hat := N7.out.stk.at_
                  rw [HVS.out] at hat
                  have HAT := Lib.hid hat
                  clear hat
                  generalize hnS : (S.drop kk).length = nS at HAT hne
                  go_wp2_with fail
                  refine (len_any B AS' nS cS' most _ HAT.out).mono ?_
                  rintro e w8 ⟨rfl, rfl⟩
                  go_wp2_with fail
                  go_roundw
                  case rel => exact ⟨k + 1, v2, I, O ++ S.take kk, S.drop kk, hlt, by first | rfl | simp, by omega, N7.out, P5.out.drewN q7⟩
                  case measure => simp [intOf]; omega
                · rcases (by omega : o.n < 1 ∨ (1 ≤ o.n ∧ (S.length : Int) < o.n)) with hf1 | ⟨hf1, hf2⟩
                  · go_wp2_with fail
                    generalize wr.alloc (.cells #[.int .i64 1, .int .i64 o.n, .slice L o.xs.length d] 37) = W4 at *
                    generalize wr.heap.size = Y at hY hYS ⊢
                    have y1 : W4.cell? ⟨Y, 1, none⟩ = some (.int .i64 o.n) := by rw [cell_of_row _ _ _ _ _ _ hY.out]; rfl
                    have y2 : W4.cell? ⟨Y, 2, none⟩ = some (.slice L o.xs.length d) := by rw [cell_of_row _ _ _ _ _ _ hY.out]; rfl
                    refine (take_no B most o.n _ S _ H4O.out.stk (by omega)).mono ?_
                    rintro e W5 ⟨rfl, rfl⟩
                    have hbase5 : w.heap.size ≤ W4.heap.size := P4.out.size
                    have SRC5 : Hid (Src W4 1 none 0 []) := Lib.hid ⟨rfl, fun h => absurd h (by omega)⟩
                    go_wp2_with (at_builtin; refine wpList_app _ rfl (.tmp 118) (.tmp 119) _ rfl w.heap.size 3 i0 _ 1 8 Try.underlying23 hi0 hz0 hz1 hz2 rfl (by omega) (.slice AO O.length cO) O.length (ints O) rfl H4O.out.out none 0 0 [] rfl SRC5.out (fun u hu => by simp at hu) (by simp only [maxLen]; omega) (by omega) hbase5 ?_; intro v6 w6 hown6 hg6 hat6; obtain ⟨A6, c6, rfl⟩ := own_form hown6; have hN := H4O.out.none2 hown6 hg6 hat6; have N6 := Lib.hid hN; have P5 := Lib.hid (Only.grown P4.out hg6 (fun i hi e => by have := (H4O.out.out.lt i e).1; omega)); clear hN hown6 hg6 hat6)
                    have hsO := SlI.of_own N6.out.out N6.out.rngO
                    have hsI := (SlI.of_own N6.out.inn N6.out.rngI).take (O.length) (by have := N6.out.len; (try simp only [List.length_append, List.length_take, List.length_drop] at this); omega)
                    have htk : List.take (O.length) (I) = O := by
                      have h := N6.out.sum
                      rw [h, show (O.length) = (O).length from by first | rfl | (simp only [List.length_append]; done) | (simp only [List.length_append, List.length_take]; omega) | omega, List.take_left]
                    rw [htk] at hsI
                    have HSO := Lib.hid hsO
                    have HSI := Lib.hid hsI
                    clear hsO hsI htk
                    refine (ints_any _ _ (O) (O) _ HSO.out HSI.out).mono ?_
                    rw [sameI_self]
                    rintro e w7 ⟨rfl, q7, rfl⟩
                    have N7 := Lib.hid (N6.out.pure ((Only.refl (fun _ => False) _).drewN q7))
                    obtain ⟨AS', cS', hvS, _⟩ := N6.out.stk.form
                    have HVS := Lib.hid hvS
                    clear hvS
                    have hne : (((S).length : Int) != (I.length : Int) - (O.length : Int)) = false := by
                      have := N6.out.len
                      (try simp only [List.length_append, List.length_take, List.length_drop] at this)
                      (try simp only [List.length_append, List.length_take, List.length_drop])
                      rw [bne_eq_false_iff_eq]
                      (try simp only [List.length_nil] at *)
                      omega
                    have hat := N7.out.stk.at_
                    rw [HVS.out] at hat
                    have HAT := Lib.hid hat
                    clear hat
                    generalize hnS : (S).length = nS at HAT hne
                    go_wp2_with fail
                    refine (len_any B AS' nS cS' most _ HAT.out).mono ?_
                    rintro e w8 ⟨rfl, rfl⟩
                    go_wp2_with fail
                    go_roundw
                    case rel => exact ⟨k + 1, vS, I, O, S, hlt, by first | rfl | simp, by omega, N7.out, P5.out.drewN q7⟩
                    case measure => simp [intOf]; omega
                  · have hdec : decide (o.n ≤ (I.length : Int) - (O.length : Int)) = false := by simp; omega
                    go_wp2_with fail
                    generalize wr.alloc (.cells #[.int .i64 1, .int .i64 o.n, .slice L o.xs.length d] 37) = W4 at *
                    generalize wr.heap.size = Y at hY hYS ⊢
                    have y1 : W4.cell? ⟨Y, 1, none⟩ = some (.int .i64 o.n) := by rw [cell_of_row _ _ _ _ _ _ hY.out]; rfl
                    have y2 : W4.cell? ⟨Y, 2, none⟩ = some (.slice L o.xs.length d) := by rw [cell_of_row _ _ _ _ _ _ hY.out]; rfl
                    refine (take_no B most o.n _ S _ H4O.out.stk (by omega)).mono ?_
                    rintro e W5 ⟨rfl, rfl⟩
                    have hbase5 : w.heap.size ≤ W4.heap.size := P4.out.size
                    have SRC5 : Hid (Src W4 1 none 0 []) := Lib.hid ⟨rfl, fun h => absurd h (by omega)⟩
                    go_wp2_with (at_builtin; refine wpList_app _ rfl (.tmp 118) (.tmp 119) _ rfl w.heap.size 3 i0 _ 1 8 Try.underlying23 hi0 hz0 hz1 hz2 rfl (by omega) (.slice AO O.length cO) O.length (ints O) rfl H4O.out.out none 0 0 [] rfl SRC5.out (fun u hu => by simp at hu) (by simp only [maxLen]; omega) (by omega) hbase5 ?_; intro v6 w6 hown6 hg6 hat6; obtain ⟨A6, c6, rfl⟩ := own_form hown6; have hN := H4O.out.none2 hown6 hg6 hat6; have N6 := Lib.hid hN; have P5 := Lib.hid (Only.grown P4.out hg6 (fun i hi e => by have := (H4O.out.out.lt i e).1; omega)); clear hN hown6 hg6 hat6)
                    have hsO := SlI.of_own N6.out.out N6.out.rngO
                    have hsI := (SlI.of_own N6.out.inn N6.out.rngI).take (O.length) (by have := N6.out.len; (try simp only [List.length_append, List.length_take, List.length_drop] at this); omega)
                    have htk : List.take (O.length) (I) = O := by
                      have h := N6.out.sum
                      rw [h, show (O.length) = (O).length from by first | rfl | (simp only [List.length_append]; done) | (simp only [List.length_append, List.length_take]; omega) | omega, List.take_left]
                    rw [htk] at hsI
                    have HSO := Lib.hid hsO
                    have HSI := Lib.hid hsI
                    clear hsO hsI htk
                    refine (ints_any _ _ (O) (O) _ HSO.out HSI.out).mono ?_
                    rw [sameI_self]
                    rintro e w7 ⟨rfl, q7, rfl⟩
                    have N7 := Lib.hid (N6.out.pure ((Only.refl (fun _ => False) _).drewN q7))
                    obtain ⟨AS', cS', hvS, _⟩ := N6.out.stk.form
                    have HVS := Lib.hid hvS
                    clear hvS
                    have hne : (((S).length : Int) != (I.length : Int) - (O.length : Int)) = false := by
                      have := N6.out.len
                      (try simp only [List.length_append, List.length_take, List.length_drop] at this)
                      (try simp only [List.length_append, List.length_take, List.length_drop])
                      rw [bne_eq_false_iff_eq]
                      (try simp only [List.length_nil] at *)
                      omega
                    have hat := N7.out.stk.at_
                    rw [HVS.out] at hat
                    have HAT := Lib.hid hat
                    clear hat
                    generalize hnS : (S).length = nS at HAT hne
                    go_wp2_with fail
                    refine (len_any B AS' nS cS' most _ HAT.out).mono ?_
                    rintro e w8 ⟨rfl, rfl⟩
                    go_wp2_with fail
                    go_roundw
                    case rel => exact ⟨k + 1, vS, I, O, S, hlt, by first | rfl | simp, by omega, N7.out, P5.out.drewN q7⟩
                    case measure => simp [intOf]; omega
              · rw [hkd] at d1' H4O P4 hY
                clear hkd
                obtain ⟨AS, cS, hvs, _⟩ := HO.out.stk.form
                subst hvs
                go_wp2_with fail
                generalize wr.alloc (.cells #[.int .i64 2, .int .i64 o.n, .slice L o.xs.length d] 37) = W4 at *
                generalize wr.heap.size = Y at hY hYS ⊢
                have y1 : W4.cell? ⟨Y, 1, none⟩ = some (.int .i64 o.n) := by rw [cell_of_row _ _ _ _ _ _ hY.out]; rfl
                have y2 : W4.cell? ⟨Y, 2, none⟩ = some (.slice L o.xs.length d) := by rw [cell_of_row _ _ _ _ _ _ hY.out]; rfl
                refine (drain_any B _ most _ H4O.out.stk.at_).mono ?_
                rintro e W5 ⟨rfl, rfl⟩
                have o5 : Only (fun i => i = B) W4 (W4.setCell ⟨B, 0, none⟩ (.slice none 0 0)) := (Only.refl (fun i => i = B) W4).setCell (p := ⟨B, 0, none⟩) (fun _ => rfl) _
                have hbS : ∀ q, (Value.slice AS S.length cS).ownBlock = some q → q ≠ B := fun q hq => H4O.out.stk.at_.ne H4O.out.stk.own hq
                have hk5 : StkOf (W4.setCell ⟨B, 0, none⟩ (.slice none 0 0)) B most (.slice none 0 0) (S.drop S.length) := by
                  rw [List.drop_length]
                  exact ⟨H4O.out.stk.at_.set _, World.ownsRow_nil _ _ _ _, H4O.out.stk.h0, H4O.out.stk.h8, by simpa using H4O.out.stk.h0, by simp⟩
                have hs5 := SlI.of_own (o5.own H4O.out.stk.own hbS) H4O.out.stk.rng
                have hp5 : Pure w (W4.setCell ⟨B, 0, none⟩ (.slice none 0 0)) := P4.out.trans o5 (fun i hi e => by have := HO.out.bB; omega)
                generalize W4.setCell ⟨B, 0, none⟩ (.slice none 0 0) = W5 at *
                have P5' := Lib.hid hp5
                have hbase5 := hp5.size
                have K5 := Lib.hid hk5
                have O5 := Lib.hid o5
                have HB4 := Lib.hid (show w.heap.size ≤ W4.heap.size from P4.out.size)
                have OWN5 := Lib.hid (O5.out.own H4O.out.out (fun q hq e => H4O.out.ob q hq (.inl e)))
                have SRC5 := Lib.hid hs5.src.2
                have HT := Lib.hid (show S.take S.length = S from by simp)
                clear hp5 hk5 o5 hs5 hbS y1 y2
                go_wp2_with (at_builtin; refine wpList_app _ rfl (.tmp 123) (.tmp 125) _ rfl w.heap.size 3 i0 _ 1 8 Try.underlying23 hi0 hz0 hz1 hz2 rfl (by omega) (.slice AO O.length cO) O.length (ints O) rfl OWN5.out AS S.length cS (ints S) rfl SRC5.out (ints_one _) (by simp only [maxLen]; omega) (by omega) hbase5 ?_; intro v6 w6 hown6 hg6 hat6; obtain ⟨A6, c6, rfl⟩ := own_form hown6; have hN := H4O.out.take2 (v1 := .slice none 0 0) (k := S.length) K5.out O5.out (fun i e => by simp [Value.ownBlock] at e) HB4.out (by rw [HT.out]; exact hown6) hg6 hat6; rw [HT.out, List.drop_length] at hN; have N6 := Lib.hid hN; have P5 := Lib.hid (Only.grown P5'.out hg6 (fun i hi e => by have := (OWN5.out.lt i e).1; omega)); clear hN hown6 hg6 hat6)
                have hsO := SlI.of_own N6.out.out N6.out.rngO
                have hsI := (SlI.of_own N6.out.inn N6.out.rngI).take (O.length + S.length) (by have := N6.out.len; (try simp only [List.length_append, List.length_take, List.length_drop] at this); omega)
                have htk : List.take (O.length + S.length) (I) = O ++ S := by
                  have h := N6.out.sum
                  rw [h, show (O.length + S.length) = (O ++ S).length from by first | rfl | (simp only [List.length_append]; done) | (simp only [List.length_append, List.length_take]; omega) | omega, List.take_left]
                rw [htk] at hsI
                have HSO := Lib.hid hsO
                have HSI := Lib.hid hsI
                clear hsO hsI htk
                refine (ints_any _ _ (O ++ S) (O ++ S) _ HSO.out HSI.out).mono ?_
                rw [sameI_self]
                rintro e w7 ⟨rfl, q7, rfl⟩
                have N7 := Lib.hid (N6.out.pure ((Only.refl (fun _ => False) _).drewN q7))
                obtain ⟨AS', cS', hvS, _⟩ := N6.out.stk.form
                have HVS := Lib.hid hvS
                clear hvS
                have hne : (((([] : List Int)).length : Int) != (I.length : Int) - ((O.length : Int) + (S.length : Int))) = false := by
                  have := N6.out.len
                  (try simp only [List.length_append, List.length_take, List.length_drop] at this)
                  (try simp only [List.length_append, List.length_take, List.length_drop])
                  rw [bne_eq_false_iff_eq]
                  (try simp only [List.length_nil] at *)
                  omega
                have hat := N7.out.stk.at_
                rw [HVS.out] at hat
                have HAT := Lib.hid hat
                clear hat
                generalize hnS : (([] : List Int)).length = nS at HAT hne
                go_wp2_with fail
                refine (len_any B AS' nS cS' most _ HAT.out).mono ?_
                rintro e w8 ⟨rfl, rfl⟩
                go_wp2_with fail
                go_roundw
                case rel => exact ⟨k + 1, .slice none 0 0, I, O ++ S, ([] : List Int), hlt, by first | rfl | simp, by omega, N7.out, P5.out.drewN q7⟩
                case measure => simp [intOf]; omega
              · have e0 : (o.kind == 0) = false := by simpa using hk0
                have e1 : (o.kind == 1) = false := by simpa using hk1
                have e2 : (o.kind == 2) = false := by simpa using hk2
                clear hk0 hk1 hk2
                go_wp2_with fail
                generalize wr.alloc (.cells #[.int .i64 o.kind, .int .i64 o.n, .slice L o.xs.length d] 37) = W4 at *
                generalize wr.heap.size = Y at hY hYS ⊢
                have y1 : W4.cell? ⟨Y, 1, none⟩ = some (.int .i64 o.n) := by rw [cell_of_row _ _ _ _ _ _ hY.out]; rfl
                have y2 : W4.cell? ⟨Y, 2, none⟩ = some (.slice L o.xs.length d) := by rw [cell_of_row _ _ _ _ _ _ hY.out]; rfl
                have P5 := P4
                have hsO := SlI.of_own H4O.out.out H4O.out.rngO
                have hsI := (SlI.of_own H4O.out.inn H4O.out.rngI).take (O.length) (by have := H4O.out.len; (try simp only [List.length_append, List.length_take, List.length_drop] at this); omega)
                have htk : List.take (O.length) (I) = O := by
                  have h := H4O.out.sum
                  rw [h, show (O.length) = (O).length from by first | rfl | (simp only [List.length_append]; done) | (simp only [List.length_append, List.length_take]; omega) | omega, List.take_left]
                rw [htk] at hsI
                have HSO := Lib.hid hsO
                have HSI := Lib.hid hsI
                clear hsO hsI htk
                refine (ints_any _ _ (O) (O) _ HSO.out HSI.out).mono ?_
                rw [sameI_self]
                rintro e w7 ⟨rfl, q7, rfl⟩
                have N7 := Lib.hid (H4O.out.pure ((Only.refl (fun _ => False) _).drewN q7))
                obtain ⟨AS', cS', hvS, _⟩ := H4O.out.stk.form
                have HVS := Lib.hid hvS
                clear hvS
                have hne : (((S).length : Int) != (I.length : Int) - (O.length : Int)) = false := by
                  have := H4O.out.len
                  (try simp only [List.length_append, List.length_take, List.length_drop] at this)
                  (try simp only [List.length_append, List.length_take, List.length_drop])
                  rw [bne_eq_false_iff_eq]
                  (try simp only [List.length_nil] at *)
                  omega
                have hat := N7.out.stk.at_
                rw [HVS.out] at hat
                have HAT := Lib.hid hat
                clear hat
                generalize hnS : (S).length = nS at HAT hne
                go_wp2_with fail
                refine (len_any B AS' nS cS' most _ HAT.out).mono ?_
                rintro e w8 ⟨rfl, rfl⟩
                go_wp2_with fail
                go_roundw
                case rel => exact ⟨k + 1, vS, I, O, S, hlt, by first | rfl | simp, by omega, N7.out, P5.out.drewN q7⟩
                case measure => simp [intOf]; omega
            · obtain rfl : k = l.length := by omega
              go_wp2_with fail
              refine (first_any _).mono ?_
              rintro e w8 ⟨rfl, hp8⟩
              have P8 := Lib.hid (Pure.then HP.out hp8)
              clear hp8
              go_wp2
              go_ret
              exact ⟨rfl, P8.out⟩
        · go_wp2_with fail
          refine (first_any _).mono ?_
          rintro e w8 ⟨rfl, hp8⟩
          have P8 := Lib.hid (Pure.then PW.out hp8)
          clear hp8
          go_wp2
          go_ret
          exact ⟨rfl, P8.out⟩
      · go_wp2_with fail
        refine (first_any _).mono ?_
        rintro e w8 ⟨rfl, hp8⟩
        have P8 := Lib.hid (Pure.then PW.out hp8)
        clear hp8
        go_wp2
        go_ret
        exact ⟨rfl, P8.out⟩

theorem open_1 {H : Type} {enc : TypeId × Value → H} {W : World} {b0 base : Nat} {v : Value} {d : DataW H} {ps : List MemPlace} {r : Reach}
    (hval : Value.okWide Try.prog W r b0 35 v) (h : DataW.Trod enc Try.prog W base (fun _ => true) true 35 v d ps) : ∃ l, OpsR W W.heap.size v l := open_ops hval h
theorem walk (w : World) (most : Int) (_hb : -9223372036854775808 ≤ most ∧ most ≤ 9223372036854775807) (v : Value) (l : List Op9) (hl : OpsR w w.heap.size v l) :
    Calls Try.prog 6 #[.int .i64 most, v] w fun e w' => e = .returned (.bool true) ∧ Pure w w' := by
  by_cases h0 : most < 0 ∨ 8 < most
  · exact out1 most v l w hl h0
  · exact main most v l w hl (by omega) (by omega)

set_option maxRecDepth 100000 in
theorem lifted (os : Os) (started : os.Started) (H : Type) (enc : TypeId × Value → H) :
    ReturnsInHanded {} Try.checked os 6 .any (Rows.stockOrderSpec.pre6 enc Try.prog Try.f6 Rows.stockOrderRow.domain false) (Rows.stockOrderSpec.post enc Try.prog Try.f6 false true false false) :=
  lift_law (C := Try.checked) own started (by kernel_rfl) Try.func6 laidOut (by kernel_rfl) rfl rfl Try.underlying4
    (fun ds h => by match ds, h with | [_, _], _ => rfl)
    (ChangeSpec.witness6 (enc := enc) (C := Try.checked) false ⟨#[], #[.int .i64 0, .slice none 0 0], []⟩ 8 (by kernel_rfl) (by kernel_rfl) (by kernel_rfl) (by kernel_rfl))
    (fun W base args ds ps hval hA hlt => by
      have hA' : DataW.TrodAll enc Try.prog W 0 (fun _ => true) true Try.f6.params.toList args.toList ds ps := hA
      rw [Try.params6] at hA'
      have hval' : ∀ (j : Nat) t v, Try.f6.params[j]? = some t → args[j]? = some v → Value.okWide Try.prog W .any base t v := hval
      rw [Try.params6] at hval'
      obtain ⟨v0, vs0, d0, ds0, p0, q0, hargs, rfl, rfl, h0, r0⟩ := trodAll_cons hA'
      obtain ⟨v1, vs1, d1, ds1, p1, q1, rfl, rfl, rfl, h1, r1⟩ := trodAll_cons r0
      obtain ⟨rfl, rfl, rfl⟩ := trodAll_nil r1
      obtain rfl : args = #[v0, v1] := by cases args; simp_all
      obtain ⟨a0, rfl, rfl, rfl, w0⟩ := open_int Try.underlying3 (hval' 0 3 v0 rfl rfl) h0
      obtain ⟨x1, s1⟩ := open_1 (hval' 1 35 v1 rfl rfl) h1
      exact (walk W a0 (int_bounds w0) _ x1 s1).mono fun e W' ⟨he, hp⟩ => ⟨he, hp.below⟩)

/-- The statement. -/
theorem proved : Rows.StockOrderSaid :=
  OpenClaim.holds_of_wide 6 Try.f6 rfl rfl rfl rfl rfl rfl rfl ⟨rfl, rfl, rfl, rfl, rfl⟩ rfl rfl rfl rfl rfl (by kernel_rfl) Try.func6 (by kernel_rfl)
    (of_decide_eq_true (by kernel_rfl)) (by unfold Func.isWrapper; first | (rw [if_pos (by decide +kernel)]; kernel_rfl) | (rw [if_neg (by decide +kernel)]; exact ⟨rfl, rfl⟩))
    (fun os started H enc _ => lifted os started H enc)
#print axioms proved

end Go.Proofs.Ytlnhehjdicpeoaa.stockOrder
