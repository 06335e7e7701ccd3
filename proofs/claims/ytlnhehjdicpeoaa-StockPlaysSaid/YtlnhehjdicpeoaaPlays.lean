/-
  StockPlays: any size, any operations: what a stock keeps, in order, as the reference tells. For every input.
-/
import Derived.Test.YtlnhehjdicpeoaaOp9
import Derived.Test.YtlnhehjdicpeoaaSt6
namespace Go.Proofs.Ytlnhehjdicpeoaa.stockPlays
open Go.RowKit Go.ChangeShapes Go.WideShapes Go.ChangeAt

/-- Both stocks: what the one keeps, what the other keeps; in blocks of the call's own. -/
structure Ply (B0 B C : Nat) (most : Int) (vS vX : Value) (S X : List Int) (w : World) : Prop where
  stk : StkOf w B most vS S
  ref : StxOf w C most vX X
  apart : ∀ q, StkS B vS q → ¬ StxS C vX q
  sB : ∀ q, StkS B vS q → B0 ≤ q
  xB : ∀ q, StxS C vX q → B0 ≤ q
theorem Ply.pure {B0 B C : Nat} {most : Int} {vS vX : Value} {S X : List Int} {a b : World} (h : Ply B0 B C most vS vX S X a) (p : Pure a b) : Ply B0 B C most vS vX S X b :=
  ⟨h.stk.only p (fun _ _ f => f), h.ref.only p (fun _ _ f => f), h.apart, h.sB, h.xB⟩
theorem stkS_lt {w : World} {B : Nat} {most : Int} {v : Value} {S : List Int} (h : StkOf w B most v S) : ∀ q, StkS B v q → q < w.heap.size := fun q hq => by
  rcases hq with rfl | hq
  · exact h.at_.lt
  · exact (h.own.lt q hq).2
theorem stxS_lt {w : World} {B : Nat} {most : Int} {v : Value} {S : List Int} (h : StxOf w B most v S) : ∀ q, StxS B v q → q < w.heap.size := fun q hq => by
  rcases hq with rfl | hq
  · exact h.at_.lt
  · exact (h.own.lt q hq).2
/-- Behind Put at the one. -/
theorem Ply.put {B0 B C : Nat} {most : Int} {vS vX v' : Value} {S X S' : List Int} {a b : World} (h : Ply B0 B C most vS vX S X a) (hk : StkOf b B most v' S') (ho : Only (StkS B vS) a b)
    (hat : v'.ownBlock = vS.ownBlock ∨ ∃ k, v'.ownBlock = some k ∧ a.heap.size ≤ k) (hB : B0 ≤ a.heap.size) : Ply B0 B C most v' vX S' X b := by
  have hx := stxS_lt h.ref
  have key : ∀ q, StkS B v' q → StkS B vS q ∨ a.heap.size ≤ q := fun q hq => by
    rcases hq with hq | hq
    · exact .inl (.inl hq)
    · rcases hat with h' | ⟨k, h', hk'⟩
      · exact .inl (.inr (h'.symm.trans hq))
      · rw [h'] at hq; injection hq with hq; exact .inr (by omega)
  refine ⟨hk, h.ref.only ho (fun q hq e => h.apart q e hq), fun q hq e => ?_, fun q hq => ?_, h.xB⟩
  · rcases key q hq with h' | h'
    · exact h.apart q h' e
    · have := hx q e; omega
  · rcases key q hq with h' | h'
    · exact h.sB q h'
    · omega
/-- Behind Put at the other. -/
theorem Ply.putX {B0 B C : Nat} {most : Int} {vS vX v' : Value} {S X X' : List Int} {a b : World} (h : Ply B0 B C most vS vX S X a) (hk : StxOf b C most v' X') (ho : Only (StxS C vX) a b)
    (hat : v'.ownBlock = vX.ownBlock ∨ ∃ k, v'.ownBlock = some k ∧ a.heap.size ≤ k) (hB : B0 ≤ a.heap.size) : Ply B0 B C most vS v' S X' b := by
  have hx := stkS_lt h.stk
  have key : ∀ q, StxS C v' q → StxS C vX q ∨ a.heap.size ≤ q := fun q hq => by
    rcases hq with hq | hq
    · exact .inl (.inl hq)
    · rcases hat with h' | ⟨k, h', hk'⟩
      · exact .inl (.inr (h'.symm.trans hq))
      · rw [h'] at hq; injection hq with hq; exact .inr (by omega)
  refine ⟨h.stk.only ho (fun q hq e => h.apart q hq e), hk, fun q hq e => ?_, h.sB, fun q hq => ?_⟩
  · rcases key q e with h' | h'
    · exact h.apart q hq h'
    · have := hx q hq; omega
  · rcases key q hq with h' | h'
    · exact h.xB q h'
    · omega
/-- Behind Take (or Drain) at the one. -/
theorem Ply.take {B0 B C : Nat} {most : Int} {vS vX v' : Value} {S X S' : List Int} {a b : World} (h : Ply B0 B C most vS vX S X a) (hk : StkOf b B most v' S') (ho : Only (fun i => i = B) a b)
    (hne : ∀ i, v'.ownBlock = some i → a.heap.size ≤ i) (hB : B0 ≤ a.heap.size) : Ply B0 B C most v' vX S' X b := by
  have hx := stxS_lt h.ref
  refine ⟨hk, h.ref.only ho (fun q hq e => h.apart q (.inl e) hq), fun q hq e => ?_, fun q hq => ?_, h.xB⟩
  · rcases hq with hq | hq
    · exact h.apart q (.inl hq) e
    · have := hne q hq; have := hx q e; omega
  · rcases hq with hq | hq
    · exact h.sB q (.inl hq)
    · have := hne q hq; omega
theorem Ply.takeX {B0 B C : Nat} {most : Int} {vS vX v' : Value} {S X X' : List Int} {a b : World} (h : Ply B0 B C most vS vX S X a) (hk : StxOf b C most v' X') (ho : Only (fun i => i = C) a b)
    (hne : ∀ i, v'.ownBlock = some i → a.heap.size ≤ i) (hB : B0 ≤ a.heap.size) : Ply B0 B C most vS v' S X' b := by
  have hx := stkS_lt h.stk
  refine ⟨h.stk.only ho (fun q hq e => h.apart q hq (.inl e)), hk, fun q hq e => ?_, h.sB, fun q hq => ?_⟩
  · rcases e with e | e
    · exact h.apart q hq (.inl e)
    · have := hne q e; have := hx q hq; omega
  · rcases hq with hq | hq
    · exact h.xB q (.inl hq)
    · have := hne q hq; omega

/-- While an operation puts into both: which of them has been done; the operation lies in block Y. -/
def PP (w0 : World) (B C Y : Nat) (most : Int) (S xs : List Int) (u : Value) (s x : Bool) (w : World) : Prop :=
  Pure w0 w ∧ w.cell? ⟨Y, 2, none⟩ = some u ∧ ∃ vS vX, Ply w0.heap.size B C most vS vX (if s then S ++ xs else S) (if x then S ++ xs else S) w ∧ ¬ StkS B vS Y ∧ ¬ StxS C vX Y
theorem putS {w0 w : World} {B C Y : Nat} {most : Int} {S xs : List Int} {u : Value} {x : Bool} (h : Hid (PP w0 B C Y most S xs u false x w)) (hu : ∀ w', Pure w0 w' → SlI w' w'.heap.size u xs) (hf : (S.length : Int) + xs.length ≤ most) :
    Calls Try.prog 12 #[.pointer (some ⟨B, 0, none⟩), u] w fun e w' => e = .returned (.bool true) ∧ w'.cell? ⟨Y, 2, none⟩ = some u ∧ Hid (PP w0 B C Y most S xs u true x w') := by
  obtain ⟨hp, hc, vS, vX, hP, hY1, hY2⟩ := h.out
  refine (put_ok B most vS u S xs w hP.stk (hu w hp) hf).mono ?_
  rintro e w' ⟨v', rfl, hk, ho, hat⟩
  have hYlt := World.block_lt_of_cell? w _ hc
  have hc' : w'.cell? ⟨Y, 2, none⟩ = some u := (ho.cell hYlt hY1).trans hc
  have hw : w0.heap.size ≤ w.heap.size := hp.size
  refine ⟨rfl, hc', Lib.hid ⟨hp.trans ho (fun i hi e => by have := hP.sB i e; omega), hc', v', vX, hP.put hk ho hat hw, ?_, hY2⟩⟩
  rintro (e | e)
  · exact hY1 (.inl e)
  · rcases hat with h' | ⟨k, h', hk'⟩
    · exact hY1 (.inr (h'.symm.trans e))
    · rw [h'] at e; injection e with e
      have hYlt' : Y < w.heap.size := hYlt
      omega
theorem putX {w0 w : World} {B C Y : Nat} {most : Int} {S xs : List Int} {u : Value} {s : Bool} (h : Hid (PP w0 B C Y most S xs u s false w)) (hu : ∀ w', Pure w0 w' → SlI w' w'.heap.size u xs) (hf : (S.length : Int) + xs.length ≤ most) :
    Calls Try.prog 16 #[.pointer (some ⟨C, 0, none⟩), u] w fun e w' => e = .returned (.bool true) ∧ w'.cell? ⟨Y, 2, none⟩ = some u ∧ Hid (PP w0 B C Y most S xs u s true w') := by
  obtain ⟨hp, hc, vS, vX, hP, hY1, hY2⟩ := h.out
  refine (put6_ok C most vX u S xs w hP.ref (hu w hp) hf).mono ?_
  rintro e w' ⟨v', rfl, hk, ho, hat⟩
  have hYlt := World.block_lt_of_cell? w _ hc
  have hc' : w'.cell? ⟨Y, 2, none⟩ = some u := (ho.cell hYlt hY2).trans hc
  have hw : w0.heap.size ≤ w.heap.size := hp.size
  refine ⟨rfl, hc', Lib.hid ⟨hp.trans ho (fun i hi e => by have := hP.xB i e; omega), hc', vS, v', hP.putX hk ho hat hw, hY1, ?_⟩⟩
  rintro (e | e)
  · exact hY2 (.inl e)
  · rcases hat with h' | ⟨k, h', hk'⟩
    · exact hY2 (.inr (h'.symm.trans e))
    · rw [h'] at e; injection e with e
      have hYlt' : Y < w.heap.size := hYlt
      omega
theorem quiet_l {P : Program} {f : FuncId} {args : Array Value} {w : World} {n : Nat} {v : Value} (h : Calls P f args (w.drewN n) fun e w' => e = .returned v ∧ w.drewN n = w') : Calls P f args (w.drewN n) fun e w'' => e = .returned v ∧ ∃ m, w'' = w.drewN m :=
  h.mono fun _ _ ⟨he, hm⟩ => ⟨he, n, hm.symm⟩

set_option maxRecDepth 100000 in
set_option maxHeartbeats 4000000 in
theorem out1 (most : Int) (v sv : Value) (l : List Op9) (side : List Int) (w : World) (hl : OpsR w w.heap.size v l) (hsd : SlI w w.heap.size sv side) (h : most < 0 ∨ 8 < most) :
    Calls Try.prog 5 #[.int .i64 most, v, sv] w fun e w' => e = .returned (.bool true) ∧ Pure w w' := by
  obtain ⟨⟨A, cc, rfl, h1, h2, h3⟩, h4⟩ := hl
  have HSD := Lib.hid (fun (w' : World) (hp : Pure w w') => hsd.only hp (fun _ _ f => f))
  obtain ⟨AD, cd, rfl, hcd, hcm⟩ := hsd.len
  have H3 := Lib.hid h3
  have H4 := Lib.hid h4
  clear h3 h4 hsd
  have H := Lib.hid h
  clear h
  go_enter Try.func5, Try.ntmps5
  go_wp2_with fail
  refine (first_any _).mono ?_
  rintro e w1 ⟨rfl, hp1⟩
  have P1 := Lib.hid hp1
  have PW := P1
  clear hp1
  go_wp2_with fail
  go_loopw [7, 8] (fun n i wr => ∃ k m : Nat, k ≤ l.length ∧ k ≤ 200 ∧ m ≤ 2001 * k ∧ i = .int .i64 k ∧ n = .int .i64 m ∧ wr = w1) (fun _ i _ => 200 - (intOf i).toNat)
  case atStart => exact ⟨0, 0, Nat.zero_le _, by omega, by omega, by first | rfl | simp, by first | rfl | simp, rfl⟩
  case round =>
    obtain ⟨k, m, hk, hk2, hm, rfl, rfl, rfl⟩ := hrel
    by_cases hlt : k < l.length ∧ k < 200
    · obtain ⟨hlt, hlt2⟩ := hlt
      obtain ⟨b, off, hA, hb, hc⟩ := H3.out (by omega)
      subst hA
      obtain ⟨o, ho⟩ : ∃ o, l[k]? = some o := ⟨l[k], List.getElem?_eq_getElem hlt⟩
      obtain ⟨d1, d2, d3⟩ := hc k o ho
      obtain ⟨L, d, hv, hd1, hd2, _⟩ := (H4.out o (List.mem_of_getElem? ho)).1
      unfold maxLen at hd2
      rw [hv] at d3
      have d3' := PW.out.keep d3
      clear hc d1 d2 d3 ho hv
      by_cases hs : o.xs.length ≤ 2001
      · go_wp2_with fail
        go_roundw
        case rel => exact ⟨k + 1, m + o.xs.length, by omega, by omega, by omega, by first | rfl | simp, by first | rfl | (simp; done) | (simp; omega), by first | trivial | rfl⟩
        case measure => simp [intOf]; omega
      · go_wp2_with fail
        go_roundw
        case rel => exact ⟨k + 1, m + 2001, by omega, by omega, by omega, by first | rfl | simp, by first | rfl | (simp; done) | (simp; omega), by first | trivial | rfl⟩
        case measure => simp [intOf]; omega
    · rcases (by omega : k = l.length ∨ (k = 200 ∧ 200 < l.length)) with rfl | ⟨rfl, hlt3⟩
      · by_cases hm2 : m ≤ 2000
        · by_cases hside : side.length ≤ 2000
          · go_wp2_with fail
            refine (new_no most wr H.out).mono ?_
            rintro e w2 ⟨rfl, rfl⟩
            rcases H.out with hmo | hmo
            all_goals
              go_wp2_with fail
              refine (side_any _ side _ _ (HSD.out _ P1.out)).mono ?_
              rintro e w3 ⟨rfl, d3, hw3⟩
              have hp3 : Pure _ w3 := hw3 ▸ (Only.refl (fun _ => False) _).drewN d3
              have P3 := Lib.hid (Pure.then P1.out hp3)
              clear hw3 hp3
              go_wp2_with fail
              refine (side6_any _ side _ _ (HSD.out _ P3.out)).mono ?_
              rintro e w4 ⟨rfl, d4, hw4⟩
              have hp4 : Pure w3 w4 := hw4 ▸ (Only.refl (fun _ => False) w3).drewN d4
              have P4 := Lib.hid (Pure.then P3.out hp4)
              clear hw4 hp4
              have P5 := Lib.hid (Only.alloc P4.out (.cells #[.int .i64 most, .slice none 0 0] 40))
              go_wp2_with fail
              generalize w4.alloc (.cells #[.int .i64 most, .slice none 0 0] 40) = W5 at *
              go_loopw [12] (fun i wr => i = .int .i64 0 ∧ wr = W5) (fun _ _ => 0)
              case atStart => exact ⟨by first | rfl | simp, rfl⟩
              case round =>
                obtain ⟨rfl, rfl⟩ := hrel
                go_wp2_with fail
                refine (first_any _).mono ?_
                rintro e w8 ⟨rfl, hp8⟩
                have P8 := Lib.hid (Pure.then P5.out hp8)
                clear hp8
                go_wp2
                go_ret
                exact ⟨rfl, P8.out⟩
          · go_wp2_with fail
            refine (first_any _).mono ?_
            rintro e w8 ⟨rfl, hp8⟩
            have P8 := Lib.hid (Pure.then PW.out hp8)
            clear hp8
            go_wp2
            go_ret
            exact ⟨rfl, P8.out⟩
        · go_wp2_with fail
          refine (first_any _).mono ?_
          rintro e w8 ⟨rfl, hp8⟩
          have P8 := Lib.hid (Pure.then PW.out hp8)
          clear hp8
          go_wp2
          go_ret
          exact ⟨rfl, P8.out⟩
      · go_wp2_with fail
        refine (first_any _).mono ?_
        rintro e w8 ⟨rfl, hp8⟩
        have P8 := Lib.hid (Pure.then PW.out hp8)
        clear hp8
        go_wp2
        go_ret
        exact ⟨rfl, P8.out⟩

set_option maxRecDepth 100000 in
set_option maxHeartbeats 40000000 in
theorem main (most : Int) (v sv : Value) (l : List Op9) (side : List Int) (w : World) (hl : OpsR w w.heap.size v l) (hsd : SlI w w.heap.size sv side) (h0 : 0 ≤ most) (h8 : most ≤ 8) :
    Calls Try.prog 5 #[.int .i64 most, v, sv] w fun e w' => e = .returned (.bool true) ∧ Pure w w' := by
  obtain ⟨⟨A, cc, rfl, h1, h2, h3⟩, h4⟩ := hl
  have HSD := Lib.hid (fun (w' : World) (hp : Pure w w') => hsd.only hp (fun _ _ f => f))
  obtain ⟨AD, cd, rfl, hcd, hcm⟩ := hsd.len
  have H3 := Lib.hid h3
  have H4 := Lib.hid h4
  clear h3 h4 hsd
  go_enter Try.func5, Try.ntmps5
  go_wp2_with fail
  refine (first_any _).mono ?_
  rintro e w1 ⟨rfl, hp1⟩
  have P1 := Lib.hid hp1
  have PW := P1
  clear hp1
  go_wp2_with fail
  go_loopw [7, 8] (fun n i wr => ∃ k m : Nat, k ≤ l.length ∧ k ≤ 200 ∧ m ≤ 2001 * k ∧ i = .int .i64 k ∧ n = .int .i64 m ∧ wr = w1) (fun _ i _ => 200 - (intOf i).toNat)
  case atStart => exact ⟨0, 0, Nat.zero_le _, by omega, by omega, by first | rfl | simp, by first | rfl | simp, rfl⟩
  case round =>
    obtain ⟨k, m, hk, hk2, hm, rfl, rfl, rfl⟩ := hrel
    by_cases hlt : k < l.length ∧ k < 200
    · obtain ⟨hlt, hlt2⟩ := hlt
      obtain ⟨b, off, hA, hb, hc⟩ := H3.out (by omega)
      subst hA
      obtain ⟨o, ho⟩ : ∃ o, l[k]? = some o := ⟨l[k], List.getElem?_eq_getElem hlt⟩
      obtain ⟨d1, d2, d3⟩ := hc k o ho
      obtain ⟨L, d, hv, hd1, hd2, _⟩ := (H4.out o (List.mem_of_getElem? ho)).1
      unfold maxLen at hd2
      rw [hv] at d3
      have d3' := PW.out.keep d3
      clear hc d1 d2 d3 ho hv
      by_cases hs : o.xs.length ≤ 2001
      · go_wp2_with fail
        go_roundw
        case rel => exact ⟨k + 1, m + o.xs.length, by omega, by omega, by omega, by first | rfl | simp, by first | rfl | (simp; done) | (simp; omega), by first | trivial | rfl⟩
        case measure => simp [intOf]; omega
      · go_wp2_with fail
        go_roundw
        case rel => exact ⟨k + 1, m + 2001, by omega, by omega, by omega, by first | rfl | simp, by first | rfl | (simp; done) | (simp; omega), by first | trivial | rfl⟩
        case measure => simp [intOf]; omega
    · rcases (by omega : k = l.length ∨ (k = 200 ∧ 200 < l.length)) with rfl | ⟨rfl, hlt3⟩
      · by_cases hm2 : m ≤ 2000
        · by_cases hside : side.length ≤ 2000
          · go_wp2_with fail
            refine (new_ok most wr h0 h8).mono ?_
            rintro e w2 ⟨rfl, rfl⟩
            have k2 := stk_new wr most h0 h8
            have o2 : Pure w (wr.alloc (.cells #[.slice none 0 0, .int .i64 most] 46)) := P1.out.alloc _
            have hB : w.heap.size ≤ wr.heap.size := P1.out.size
            generalize wr.alloc (.cells #[.slice none 0 0, .int .i64 most] 46) = W2 at *
            generalize wr.heap.size = B at *
            have K2 := Lib.hid k2
            have P2 := Lib.hid o2
            clear k2 o2
            go_wp2_with fail
            refine (side_any _ side _ _ (HSD.out _ P2.out)).mono ?_
            rintro e w3 ⟨rfl, d3, hw3⟩
            have hp3 : Pure W2 w3 := hw3 ▸ (Only.refl (fun _ => False) W2).drewN d3
            have K3 := Lib.hid (K2.out.only hp3 (fun _ _ f => f))
            have P3 := Lib.hid (Pure.then P2.out hp3)
            clear hw3 hp3
            go_wp2_with fail
            refine (side6_any _ side _ _ (HSD.out _ P3.out)).mono ?_
            rintro e w4 ⟨rfl, d4, hw4⟩
            have hp4 : Pure w3 w4 := hw4 ▸ (Only.refl (fun _ => False) w3).drewN d4
            have K4 := Lib.hid (K3.out.only hp4 (fun _ _ f => f))
            have P4 := Lib.hid (Pure.then P3.out hp4)
            clear hw4 hp4
            have hax := (Only.refl (fun _ => False) w4).alloc (.cells #[.int .i64 most, .slice none 0 0] 40)
            have kx : StxOf (w4.alloc (.cells #[.int .i64 most, .slice none 0 0] 40)) w4.heap.size most (.slice none 0 0) [] := ⟨heap_alloc_new w4 _, World.ownsRow_nil _ _ _ _, h0, h8, by simpa using h0, by simp⟩
            have PLY : Hid (Ply w.heap.size B w4.heap.size most (.slice none 0 0) (.slice none 0 0) [] [] (w4.alloc (.cells #[.int .i64 most, .slice none 0 0] 40))) := by
              refine Lib.hid ⟨K4.out.only hax (fun _ _ f => f), kx, fun q hq e => ?_, fun q hq => ?_, fun q hq => ?_⟩
              · rcases hq with rfl | hq
                · rcases e with e | e
                  · have := K4.out.at_.lt; omega
                  · simp [Value.ownBlock] at e
                · simp [Value.ownBlock] at hq
              · rcases hq with rfl | hq
                · exact hB
                · simp [Value.ownBlock] at hq
              · rcases hq with rfl | hq
                · exact P4.out.size
                · simp [Value.ownBlock] at hq
            have PX := Lib.hid (Pure.then P4.out hax)
            clear hax kx
            go_wp2_with fail
            generalize w4.alloc (.cells #[.int .i64 most, .slice none 0 0] 40) = W5 at *
            generalize w4.heap.size = C at *
            go_loopw [12] (fun i wr => ∃ (k : Nat) (vS vX : Value) (S : List Int), k ≤ l.length ∧ i = .int .i64 k ∧ Ply w.heap.size B C most vS vX S S wr ∧ Pure w wr) (fun i _ => l.length - (intOf i).toNat)
            case atStart => exact ⟨0, _, _, [], Nat.zero_le _, by first | rfl | simp, PLY.out, PX.out⟩
            case round =>
              obtain ⟨k, vS, vX, S, hk, rfl, hply, hp⟩ := hrel
              have HO := Lib.hid hply
              have HP := Lib.hid hp
              have hle := hply.stk.le
              have hYS := Lib.hid (show ¬ StkS B vS wr.heap.size from fun e => by have := stkS_lt hply.stk _ e; omega)
              have hYX := Lib.hid (show ¬ StxS C vX wr.heap.size from fun e => by have := stxS_lt hply.ref _ e; omega)
              have hbase := hp.size
              clear hply hp
              by_cases hlt : k < l.length
              · obtain ⟨b, off, hA, hb, hc⟩ := H3.out (by omega)
                subst hA
                obtain ⟨o, ho⟩ : ∃ o, l[k]? = some o := ⟨l[k], List.getElem?_eq_getElem hlt⟩
                obtain ⟨d1, d2, d3⟩ := hc k o ho
                obtain ⟨hsl, hn0, hn1⟩ := H4.out o (List.mem_of_getElem? ho)
                have HSL := Lib.hid (fun c (hp : Pure w c) => (hsl.below hp.below).mono hp.size)
                obtain ⟨L, d, hv, hd1, hd2, hrng, _⟩ := hsl
                unfold maxLen at hd2
                rw [hv] at d3 HSL
                have d1' := HP.out.keep d1
                have d2' := HP.out.keep d2
                have d3' := HP.out.keep d3
                have H4O := Lib.hid (HO.out.pure ((Only.refl _ wr).alloc (.cells #[.int .i64 o.kind, .int .i64 o.n, .slice L o.xs.length d] 37)))
                have P4 := Lib.hid (HP.out.alloc (.cells #[.int .i64 o.kind, .int .i64 o.n, .slice L o.xs.length d] 37))
                have hY := Lib.hid (heap_alloc_new wr (.cells #[.int .i64 o.kind, .int .i64 o.n, .slice L o.xs.length d] 37))
                clear hc d1 d2 d3 ho hv hrng
                rcases (by omega : o.kind = 0 ∨ o.kind = 1 ∨ o.kind = 2 ∨ (o.kind ≠ 0 ∧ o.kind ≠ 1 ∧ o.kind ≠ 2)) with hkd | hkd | hkd | ⟨hk0, hk1, hk2⟩
                · rw [hkd] at d1' H4O P4 hY
                  clear hkd
                  by_cases hf : (S.length : Int) + o.xs.length ≤ most
                  · go_wp2_with fail
                    generalize wr.alloc (.cells #[.int .i64 0, .int .i64 o.n, .slice L o.xs.length d] 37) = W4 at *
                    generalize wr.heap.size = Y at hY hYS hYX ⊢
                    have y1 : W4.cell? ⟨Y, 1, none⟩ = some (.int .i64 o.n) := by rw [cell_of_row _ _ _ _ _ _ hY.out]; rfl
                    have y2 : W4.cell? ⟨Y, 2, none⟩ = some (.slice L o.xs.length d) := by rw [cell_of_row _ _ _ _ _ _ hY.out]; rfl
                    have HF := Lib.hid hf
                    clear hf y1
                    have hPP : Hid (PP w B C Y most S o.xs (.slice L o.xs.length d) false false W4.drew) := Lib.hid ⟨P4.out.drewN 1, y2, vS, vX, H4O.out.pure ((Only.refl _ W4).drewN 1), hYS.out, hYX.out⟩
                    go_region_held3 (fun w' => w'.cell? ⟨Y, 2, none⟩ = some (.slice L o.xs.length d)) (go_keep)
                      (first | (go_at_call 12; refine (putS (S := S) (xs := o.xs) (B := B) (C := C) (Y := Y) (by assumption) HSL.out HF.out).mono ?_; rintro e w' ⟨rfl, hs, hpp⟩)
                             | (go_at_call 16; refine (putX (S := S) (xs := o.xs) (B := B) (C := C) (Y := Y) (by assumption) HSL.out HF.out).mono ?_; rintro e w' ⟨rfl, hs, hpp⟩))
                    all_goals
                      obtain ⟨p5, _, v5, x5, hN, _, _⟩ := hpp.out
                      simp only [if_true] at hN
                      have N6 := Lib.hid hN
                      have P5 := Lib.hid p5
                      clear p5 hN
                      obtain ⟨AS', cS', hvS, hnS9⟩ := N6.out.stk.form
                      obtain ⟨AX', cX', hvX, hnX9⟩ := N6.out.ref.form
                      have hat := N6.out.stk.at_
                      have hax := N6.out.ref.at_
                      rw [hvS] at hat
                      rw [hvX] at hax
                      have hms := N6.out.stk.le
                      have hm0 := N6.out.stk.h0
                      have hm8 := N6.out.stk.h8
                      have HAT := Lib.hid hat
                      have HAX := Lib.hid hax
                      have HVS := Lib.hid hvS
                      have HVX := Lib.hid hvX
                      clear hat hax hvS hvX
                      obtain ⟨nS, hnS⟩ : ∃ n : Nat, n = (S ++ o.xs).length := ⟨_, rfl⟩
                      rw [← hnS] at HAT HAX hnS9 hnX9 hms
                      have x1 := HAX.out.c0
                      clear hnS
                      go_wp2_with fail
                      go_quiet ((first | (go_at_call 14; exact quiet_l (len_any B AS' nS cS' most _ HAT.out)) | (go_at_call 11; exact Calls.quiet_of (room_any B AS' nS cS' most _ HAT.out hnS9 hm0 hm8)) | (go_at_call 21; exact Calls.quiet_of (room6_any C AX' nS cX' most _ HAX.out hnX9 hm0 hm8))))
                      go_wp2_with fail
                      go_roundw
                      case rel => exact ⟨k + 1, _, _, S ++ o.xs, hlt, by first | rfl | simp, N6.out.pure ((Only.refl (fun _ => False) _).drewN _), Only.drewN P5.out _⟩
                      case measure => simp [intOf]; omega
                  · go_wp2_with fail
                    generalize wr.alloc (.cells #[.int .i64 0, .int .i64 o.n, .slice L o.xs.length d] 37) = W4 at *
                    generalize wr.heap.size = Y at hY hYS hYX ⊢
                    have y1 : W4.cell? ⟨Y, 1, none⟩ = some (.int .i64 o.n) := by rw [cell_of_row _ _ _ _ _ _ hY.out]; rfl
                    have y2 : W4.cell? ⟨Y, 2, none⟩ = some (.slice L o.xs.length d) := by rw [cell_of_row _ _ _ _ _ _ hY.out]; rfl
                    have HNF := Lib.hid (show most < (S.length : Int) + o.xs.length from by omega)
                    clear y1 hf
                    go_quiet ((first | (go_at_call 12; exact Calls.quiet_of (put_no B most _ _ S o.xs _ (H4O.out.stk.drewN _) (HSL.out _ (P4.out.drewN _)) HNF.out)) | (go_at_call 16; exact Calls.quiet_of (put6_no C most _ _ S o.xs _ (H4O.out.ref.drewN _) (HSL.out _ (P4.out.drewN _)) HNF.out))))
                    generalize hW5 : W4.drewN _ = W5
                    have hp45 : Pure W4 W5 := hW5 ▸ (Only.refl (fun _ => False) W4).drewN _
                    have N6 := Lib.hid (H4O.out.pure hp45)
                    have P5 := Lib.hid (Pure.then P4.out hp45)
                    clear hW5 hp45 y2
                    obtain ⟨AS', cS', hvS, hnS9⟩ := N6.out.stk.form
                    obtain ⟨AX', cX', hvX, hnX9⟩ := N6.out.ref.form
                    have hat := N6.out.stk.at_
                    have hax := N6.out.ref.at_
                    rw [hvS] at hat
                    rw [hvX] at hax
                    have hms := N6.out.stk.le
                    have hm0 := N6.out.stk.h0
                    have hm8 := N6.out.stk.h8
                    have HAT := Lib.hid hat
                    have HAX := Lib.hid hax
                    have HVS := Lib.hid hvS
                    have HVX := Lib.hid hvX
                    clear hat hax hvS hvX
                    obtain ⟨nS, hnS⟩ : ∃ n : Nat, n = (S).length := ⟨_, rfl⟩
                    rw [← hnS] at HAT HAX hnS9 hnX9 hms
                    have x1 := HAX.out.c0
                    clear hnS
                    go_wp2_with fail
                    go_quiet ((first | (go_at_call 14; exact quiet_l (len_any B AS' nS cS' most _ HAT.out)) | (go_at_call 11; exact Calls.quiet_of (room_any B AS' nS cS' most _ HAT.out hnS9 hm0 hm8)) | (go_at_call 21; exact Calls.quiet_of (room6_any C AX' nS cX' most _ HAX.out hnX9 hm0 hm8))))
                    go_wp2_with fail
                    go_roundw
                    case rel => exact ⟨k + 1, _, _, S, hlt, by first | rfl | simp, N6.out.pure ((Only.refl (fun _ => False) _).drewN _), Only.drewN P5.out _⟩
                    case measure => simp [intOf]; omega
                · rw [hkd] at d1' H4O P4 hY
                  clear hkd
                  by_cases hf : 1 ≤ o.n ∧ o.n ≤ S.length
                  · obtain ⟨hf1, hf2⟩ := hf
                    obtain ⟨kk, hkk⟩ := Int.eq_ofNat_of_zero_le (show 0 ≤ o.n by omega)
                    rw [hkk] at d2' H4O P4 hY hf1 hf2
                    clear hkk hn0 hn1
                    have hk1 : 1 ≤ kk := by omega
                    have hkn : kk ≤ S.length := by omega
                    clear hf1 hf2
                    go_wp2_with fail
                    generalize wr.alloc (.cells #[.int .i64 1, .int .i64 (kk : Int), .slice L o.xs.length d] 37) = W4 at *
                    generalize wr.heap.size = Y at hY hYS hYX ⊢
                    have y1 : W4.cell? ⟨Y, 1, none⟩ = some (.int .i64 (kk : Int)) := by rw [cell_of_row _ _ _ _ _ _ hY.out]; rfl
                    have y2 : W4.cell? ⟨Y, 2, none⟩ = some (.slice L o.xs.length d) := by rw [cell_of_row _ _ _ _ _ _ hY.out]; rfl
                    refine (take_ok B most kk _ S _ H4O.out.stk hk1 hkn).mono ?_
                    rintro e W5 ⟨v1, v2, rfl, k5, ho5, o5, hne5⟩
                    obtain ⟨A1, c1, rfl⟩ := own_form ho5
                    have hp5 : Pure w W5 := P4.out.trans o5 (fun i hi e => by have := HO.out.sB i (.inl e); omega)
                    have z1 : W5.cell? ⟨Y, 1, none⟩ = some (.int .i64 (kk : Int)) := (o5.cell (p := ⟨Y, 1, none⟩) (Array.getElem?_eq_some_iff.1 hY.out).1 (fun e => hYS.out (.inl e))).trans y1
                    have N5 := Lib.hid (H4O.out.take k5 o5 (fun i e => (hne5 i e).1) P4.out.size)
                    have P5' := Lib.hid hp5
                    have HO5 := Lib.hid ho5
                    have HB4 := Lib.hid P4.out.size
                    clear hp5 k5 ho5 o5 hne5 y1 y2
                    go_wp2_with fail
                    refine (take6_ok C most kk _ S _ N5.out.ref hk1 hkn).mono ?_
                    rintro e W6 ⟨x1, x2, rfl, k6, ho6, o6, hne6⟩
                    obtain ⟨A2, c2, rfl⟩ := own_form ho6
                    have hp6 : Pure w W6 := P5'.out.trans o6 (fun i hi e => by have := HO.out.xB i (.inl e); omega)
                    have N6 := Lib.hid (N5.out.takeX k6 o6 (fun i e => (hne6 i e).1) P5'.out.size)
                    have P6 := Lib.hid hp6
                    have hC4 : C < W4.heap.size := H4O.out.ref.at_.lt
                    have h15 := SlI.of_own (o6.own HO5.out (fun q hq e => by have := (HO5.out.lt q hq).1; omega)) (fun x hx => H4O.out.stk.rng x (List.mem_of_mem_take hx))
                    have h16 := SlI.of_own ho6 (fun x hx => H4O.out.stk.rng x (List.mem_of_mem_take hx))
                    have H15 := Lib.hid h15
                    have H16 := Lib.hid h16
                    clear hp6 k6 ho6 o6 hne6 h15 h16 z1
                    go_wp2_with fail
                    refine (ints_any _ _ (S.take kk) (S.take kk) _ H15.out H16.out).mono ?_
                    rw [sameI_self]
                    rintro e W7 ⟨rfl, q7, hw7⟩
                    have hp67 : Pure W6 W7 := hw7 ▸ (Only.refl (fun _ => False) W6).drewN q7
                    have N7 := Lib.hid (N6.out.pure hp67)
                    have P7 := Lib.hid (Pure.then P6.out hp67)
                    clear hw7 hp67
                    obtain ⟨AS', cS', hvS, hnS9⟩ := N7.out.stk.form
                    obtain ⟨AX', cX', hvX, hnX9⟩ := N7.out.ref.form
                    have hat := N7.out.stk.at_
                    have hax := N7.out.ref.at_
                    rw [hvS] at hat
                    rw [hvX] at hax
                    have hms := N7.out.stk.le
                    have hm0 := N7.out.stk.h0
                    have hm8 := N7.out.stk.h8
                    have HAT := Lib.hid hat
                    have HAX := Lib.hid hax
                    have HVS := Lib.hid hvS
                    have HVX := Lib.hid hvX
                    clear hat hax hvS hvX
                    obtain ⟨nS, hnS⟩ : ∃ n : Nat, n = (S.drop kk).length := ⟨_, rfl⟩
                    rw [← hnS] at HAT HAX hnS9 hnX9 hms
                    have x1 := HAX.out.c0
                    clear hnS
                    go_wp2_with fail
                    go_quiet ((first | (go_at_call 14; exact quiet_l (len_any B AS' nS cS' most _ HAT.out)) | (go_at_call 11; exact Calls.quiet_of (room_any B AS' nS cS' most _ HAT.out hnS9 hm0 hm8)) | (go_at_call 21; exact Calls.quiet_of (room6_any C AX' nS cX' most _ HAX.out hnX9 hm0 hm8))))
                    go_wp2_with fail
                    go_roundw
                    case rel => exact ⟨k + 1, _, _, S.drop kk, hlt, by first | rfl | simp, N7.out.pure ((Only.refl (fun _ => False) _).drewN _), Only.drewN P7.out _⟩
                    case measure => simp [intOf]; omega
                  · go_wp2_with fail
                    generalize wr.alloc (.cells #[.int .i64 1, .int .i64 o.n, .slice L o.xs.length d] 37) = W4 at *
                    generalize wr.heap.size = Y at hY hYS hYX ⊢
                    have y1 : W4.cell? ⟨Y, 1, none⟩ = some (.int .i64 o.n) := by rw [cell_of_row _ _ _ _ _ _ hY.out]; rfl
                    have y2 : W4.cell? ⟨Y, 2, none⟩ = some (.slice L o.xs.length d) := by rw [cell_of_row _ _ _ _ _ _ hY.out]; rfl
                    have HNK := Lib.hid (show o.n < 1 ∨ (S.length : Int) < o.n from by omega)
                    clear hf
                    refine (take_no B most o.n _ S _ H4O.out.stk HNK.out).mono ?_
                    rintro e W5 ⟨rfl, rfl⟩
                    go_wp2_with fail
                    refine (take6_no C most o.n _ S _ H4O.out.ref HNK.out).mono ?_
                    rintro e W5 ⟨rfl, rfl⟩
                    clear y1 y2
                    go_wp2_with fail
                    refine (ints_any _ _ [] [] _ (SlI.nil _ _) (SlI.nil _ _)).mono ?_
                    rw [sameI_self]
                    rintro e W7 ⟨rfl, q7, hw7⟩
                    have hp67 : Pure W4 W7 := hw7 ▸ (Only.refl (fun _ => False) W4).drewN q7
                    have N7 := Lib.hid (H4O.out.pure hp67)
                    have P7 := Lib.hid (Pure.then P4.out hp67)
                    clear hw7 hp67
                    obtain ⟨AS', cS', hvS, hnS9⟩ := N7.out.stk.form
                    obtain ⟨AX', cX', hvX, hnX9⟩ := N7.out.ref.form
                    have hat := N7.out.stk.at_
                    have hax := N7.out.ref.at_
                    rw [hvS] at hat
                    rw [hvX] at hax
                    have hms := N7.out.stk.le
                    have hm0 := N7.out.stk.h0
                    have hm8 := N7.out.stk.h8
                    have HAT := Lib.hid hat
                    have HAX := Lib.hid hax
                    have HVS := Lib.hid hvS
                    have HVX := Lib.hid hvX
                    clear hat hax hvS hvX
                    obtain ⟨nS, hnS⟩ : ∃ n : Nat, n = (S).length := ⟨_, rfl⟩
                    rw [← hnS] at HAT HAX hnS9 hnX9 hms
                    have x1 := HAX.out.c0
                    clear hnS
                    go_wp2_with fail
                    go_quiet ((first | (go_at_call 14; exact quiet_l (len_any B AS' nS cS' most _ HAT.out)) | (go_at_call 11; exact Calls.quiet_of (room_any B AS' nS cS' most _ HAT.out hnS9 hm0 hm8)) | (go_at_call 21; exact Calls.quiet_of (room6_any C AX' nS cX' most _ HAX.out hnX9 hm0 hm8))))
                    go_wp2_with fail
                    go_roundw
                    case rel => exact ⟨k + 1, _, _, S, hlt, by first | rfl | simp, N7.out.pure ((Only.refl (fun _ => False) _).drewN _), Only.drewN P7.out _⟩
                    case measure => simp [intOf]; omega
                · rw [hkd] at d1' H4O P4 hY
                  clear hkd
                  obtain ⟨AS, cS, hvs, _⟩ := HO.out.stk.form
                  subst hvs
                  obtain ⟨AX, cX, hvx, _⟩ := HO.out.ref.form
                  subst hvx
                  go_wp2_with fail
                  generalize wr.alloc (.cells #[.int .i64 2, .int .i64 o.n, .slice L o.xs.length d] 37) = W4 at *
                  generalize wr.heap.size = Y at hY hYS hYX ⊢
                  have y1 : W4.cell? ⟨Y, 1, none⟩ = some (.int .i64 o.n) := by rw [cell_of_row _ _ _ _ _ _ hY.out]; rfl
                  have y2 : W4.cell? ⟨Y, 2, none⟩ = some (.slice L o.xs.length d) := by rw [cell_of_row _ _ _ _ _ _ hY.out]; rfl
                  refine (drain_any B _ most _ H4O.out.stk.at_).mono ?_
                  rintro e W5 ⟨rfl, rfl⟩
                  have o5 : Only (fun i => i = B) W4 (W4.setCell ⟨B, 0, none⟩ (.slice none 0 0)) := (Only.refl (fun i => i = B) W4).setCell (p := ⟨B, 0, none⟩) (fun _ => rfl) _
                  have k5 : StkOf (W4.setCell ⟨B, 0, none⟩ (.slice none 0 0)) B most (.slice none 0 0) [] := ⟨H4O.out.stk.at_.set _, World.ownsRow_nil _ _ _ _, H4O.out.stk.h0, H4O.out.stk.h8, by simpa using H4O.out.stk.h0, by simp⟩
                  have hp5 : Pure w (W4.setCell ⟨B, 0, none⟩ (.slice none 0 0)) := P4.out.trans o5 (fun i hi e => by have := HO.out.sB i (.inl e); omega)
                  have hw5 := o5.own H4O.out.stk.own (fun q hq => H4O.out.stk.at_.ne H4O.out.stk.own hq)
                  have N5 := Lib.hid (H4O.out.take k5 o5 (fun i e => by simp [Value.ownBlock] at e) P4.out.size)
                  generalize W4.setCell ⟨B, 0, none⟩ (.slice none 0 0) = W5 at *
                  have P5' := Lib.hid hp5
                  have HW5 := Lib.hid hw5
                  clear hp5 k5 o5 hw5 y1 y2
                  go_wp2_with fail
                  refine (drain6_any C _ most _ N5.out.ref.at_).mono ?_
                  rintro e W6 ⟨rfl, rfl⟩
                  have o6 : Only (fun i => i = C) W5 (W5.setCell ⟨C, 1, none⟩ (.slice none 0 0)) := (Only.refl (fun i => i = C) W5).setCell (p := ⟨C, 1, none⟩) (fun _ => rfl) _
                  have k6 : StxOf (W5.setCell ⟨C, 1, none⟩ (.slice none 0 0)) C most (.slice none 0 0) [] := ⟨N5.out.ref.at_.set _, World.ownsRow_nil _ _ _ _, N5.out.ref.h0, N5.out.ref.h8, by simpa using N5.out.ref.h0, by simp⟩
                  have hp6 : Pure w (W5.setCell ⟨C, 1, none⟩ (.slice none 0 0)) := P5'.out.trans o6 (fun i hi e => by have := HO.out.xB i (.inl e); omega)
                  have hw6 := o6.own N5.out.ref.own (fun q hq => N5.out.ref.at_.ne N5.out.ref.own hq)
                  have hv6 := o6.own HW5.out (fun q hq e => H4O.out.apart q (.inr hq) (.inl e))
                  have N6 := Lib.hid (N5.out.takeX k6 o6 (fun i e => by simp [Value.ownBlock] at e) P5'.out.size)
                  generalize W5.setCell ⟨C, 1, none⟩ (.slice none 0 0) = W6 at *
                  have P6 := Lib.hid hp6
                  have H15 := Lib.hid (SlI.of_own hv6 H4O.out.stk.rng)
                  have H16 := Lib.hid (SlI.of_own hw6 H4O.out.stk.rng)
                  clear hp6 k6 o6 hw6 hv6
                  go_wp2_with fail
                  refine (ints_any _ _ S S _ H15.out H16.out).mono ?_
                  rw [sameI_self]
                  rintro e W7 ⟨rfl, q7, hw7⟩
                  have hp67 : Pure W6 W7 := hw7 ▸ (Only.refl (fun _ => False) W6).drewN q7
                  have N7 := Lib.hid (N6.out.pure hp67)
                  have P7 := Lib.hid (Pure.then P6.out hp67)
                  clear hw7 hp67
                  obtain ⟨AS', cS', hvS, hnS9⟩ := N7.out.stk.form
                  obtain ⟨AX', cX', hvX, hnX9⟩ := N7.out.ref.form
                  have hat := N7.out.stk.at_
                  have hax := N7.out.ref.at_
                  rw [hvS] at hat
                  rw [hvX] at hax
                  have hms := N7.out.stk.le
                  have hm0 := N7.out.stk.h0
                  have hm8 := N7.out.stk.h8
                  have HAT := Lib.hid hat
                  have HAX := Lib.hid hax
                  have HVS := Lib.hid hvS
                  have HVX := Lib.hid hvX
                  clear hat hax hvS hvX
                  obtain ⟨nS, hnS⟩ : ∃ n : Nat, n = (([] : List Int)).length := ⟨_, rfl⟩
                  rw [← hnS] at HAT HAX hnS9 hnX9 hms
                  have x1 := HAX.out.c0
                  clear hnS
                  go_wp2_with fail
                  go_quiet ((first | (go_at_call 14; exact quiet_l (len_any B AS' nS cS' most _ HAT.out)) | (go_at_call 11; exact Calls.quiet_of (room_any B AS' nS cS' most _ HAT.out hnS9 hm0 hm8)) | (go_at_call 21; exact Calls.quiet_of (room6_any C AX' nS cX' most _ HAX.out hnX9 hm0 hm8))))
                  go_wp2_with fail
                  go_roundw
                  case rel => exact ⟨k + 1, _, _, ([] : List Int), hlt, by first | rfl | simp, N7.out.pure ((Only.refl (fun _ => False) _).drewN _), Only.drewN P7.out _⟩
                  case measure => simp [intOf]; omega
                · have e0 : (o.kind == 0) = false := by simpa using hk0
                  have e1 : (o.kind == 1) = false := by simpa using hk1
                  have e2 : (o.kind == 2) = false := by simpa using hk2
                  clear hk0 hk1 hk2
                  go_wp2_with fail
                  generalize wr.alloc (.cells #[.int .i64 o.kind, .int .i64 o.n, .slice L o.xs.length d] 37) = W4 at *
                  generalize wr.heap.size = Y at hY hYS hYX ⊢
                  have y1 : W4.cell? ⟨Y, 1, none⟩ = some (.int .i64 o.n) := by rw [cell_of_row _ _ _ _ _ _ hY.out]; rfl
                  have y2 : W4.cell? ⟨Y, 2, none⟩ = some (.slice L o.xs.length d) := by rw [cell_of_row _ _ _ _ _ _ hY.out]; rfl
                  clear y1 y2
                  obtain ⟨AS', cS', hvS, hnS9⟩ := H4O.out.stk.form
                  obtain ⟨AX', cX', hvX, hnX9⟩ := H4O.out.ref.form
                  have hat := H4O.out.stk.at_
                  have hax := H4O.out.ref.at_
                  rw [hvS] at hat
                  rw [hvX] at hax
                  have hms := H4O.out.stk.le
                  have hm0 := H4O.out.stk.h0
                  have hm8 := H4O.out.stk.h8
                  have HAT := Lib.hid hat
                  have HAX := Lib.hid hax
                  have HVS := Lib.hid hvS
                  have HVX := Lib.hid hvX
                  clear hat hax hvS hvX
                  obtain ⟨nS, hnS⟩ : ∃ n : Nat, n = (S).length := ⟨_, rfl⟩
                  rw [← hnS] at HAT HAX hnS9 hnX9 hms
                  have x1 := HAX.out.c0
                  clear hnS
                  go_wp2_with fail
                  go_quiet ((first | (go_at_call 14; exact quiet_l (len_any B AS' nS cS' most _ HAT.out)) | (go_at_call 11; exact Calls.quiet_of (room_any B AS' nS cS' most _ HAT.out hnS9 hm0 hm8)) | (go_at_call 21; exact Calls.quiet_of (room6_any C AX' nS cX' most _ HAX.out hnX9 hm0 hm8))))
                  go_wp2_with fail
                  go_roundw
                  case rel => exact ⟨k + 1, _, _, S, hlt, by first | rfl | simp, H4O.out.pure ((Only.refl (fun _ => False) _).drewN _), Only.drewN P4.out _⟩
                  case measure => simp [intOf]; omega
              · obtain rfl : k = l.length := by omega
                go_wp2_with fail
                refine (first_any _).mono ?_
                rintro e w8 ⟨rfl, hp8⟩
                have P8 := Lib.hid (Pure.then HP.out hp8)
                clear hp8
                go_wp2
                go_ret
                exact ⟨rfl, P8.out⟩
          · go_wp2_with fail
            refine (first_any _).mono ?_
            rintro e w8 ⟨rfl, hp8⟩
            have P8 := Lib.hid (Pure.then PW.out hp8)
            clear hp8
            go_wp2
            go_ret
            exact ⟨rfl, P8.out⟩
        · go_wp2_with fail
          refine (first_any _).mono ?_
          rintro e w8 ⟨rfl, hp8⟩
          have P8 := Lib.hid (Pure.then PW.out hp8)
          clear hp8
          go_wp2
          go_ret
          exact ⟨rfl, P8.out⟩
      · go_wp2_with fail
        refine (first_any _).mono ?_
        rintro e w8 ⟨rfl, hp8⟩
        have P8 := Lib.hid (Pure.then PW.out hp8)
        clear hp8
        go_wp2
        go_ret
        exact ⟨rfl, P8.out⟩

theorem open_1 {H : Type} {enc : TypeId × Value → H} {W : World} {b0 base : Nat} {v : Value} {d : DataW H} {ps : List MemPlace} {r : Reach}
    (hval : Value.okWide Try.prog W r b0 35 v) (h : DataW.Trod enc Try.prog W base (fun _ => true) true 35 v d ps) : ∃ l, OpsR W W.heap.size v l := open_ops hval h
theorem walk (w : World) (most : Int) (_hb : -9223372036854775808 ≤ most ∧ most ≤ 9223372036854775807) (v : Value) (l : List Op9) (hl : OpsR w w.heap.size v l) (sv : Value) (side : List Int) (hsd : SlI w w.heap.size sv side) :
    Calls Try.prog 5 #[.int .i64 most, v, sv] w fun e w' => e = .returned (.bool true) ∧ Pure w w' := by
  by_cases h0 : most < 0 ∨ 8 < most
  · exact out1 most v sv l side w hl hsd h0
  · exact main most v sv l side w hl hsd (by omega) (by omega)

set_option maxRecDepth 100000 in
theorem lifted (os : Os) (started : os.Started) (H : Type) (enc : TypeId × Value → H) :
    ReturnsInHanded {} Try.checked os 5 .any (Rows.stockPlaysSpec.pre6 enc Try.prog Try.f5 Rows.stockPlaysRow.domain false) (Rows.stockPlaysSpec.post enc Try.prog Try.f5 false true false false) :=
  lift_law (C := Try.checked) own started (by kernel_rfl) Try.func5 laidOut (by kernel_rfl) rfl rfl Try.underlying4
    (fun ds h => by match ds, h with | [_, _, _], _ => rfl)
    (ChangeSpec.witness6 (enc := enc) (C := Try.checked) false ⟨#[], #[.int .i64 0, .slice none 0 0, .slice none 0 0], []⟩ 8 (by kernel_rfl) (by kernel_rfl) (by kernel_rfl) (by kernel_rfl))
    (fun W base args ds ps hval hA hlt => by
      have hA' : DataW.TrodAll enc Try.prog W 0 (fun _ => true) true Try.f5.params.toList args.toList ds ps := hA
      rw [Try.params5] at hA'
      have hval' : ∀ (j : Nat) t v, Try.f5.params[j]? = some t → args[j]? = some v → Value.okWide Try.prog W .any base t v := hval
      rw [Try.params5] at hval'
      obtain ⟨v0, vs0, d0, ds0, p0, q0, hargs, rfl, rfl, h0, r0⟩ := trodAll_cons hA'
      obtain ⟨v1, vs1, d1, ds1, p1, q1, rfl, rfl, rfl, h1, r1⟩ := trodAll_cons r0
      obtain ⟨v2, vs2, d2, ds2, p2, q2, rfl, rfl, rfl, h2, r2⟩ := trodAll_cons r1
      obtain ⟨rfl, rfl, rfl⟩ := trodAll_nil r2
      obtain rfl : args = #[v0, v1, v2] := by cases args; simp_all
      obtain ⟨a0, rfl, rfl, rfl, w0⟩ := open_int Try.underlying3 (hval' 0 3 v0 rfl rfl) h0
      obtain ⟨x1, s1⟩ := open_1 (hval' 1 35 v1 rfl rfl) h1
      obtain ⟨xs2, s2⟩ := open_sl Try.underlying23 Try.underlying3 (by kernel_rfl) (hval' 2 23 v2 rfl rfl) h2
      exact (walk W a0 (int_bounds w0) _ x1 s1 _ xs2 s2).mono fun e W' ⟨he, hp⟩ => ⟨he, hp.below⟩)

/-- The statement. -/
theorem proved : Rows.StockPlaysSaid :=
  OpenClaim.holds_of_wide 5 Try.f5 rfl rfl rfl rfl rfl rfl rfl ⟨rfl, rfl, rfl, rfl, rfl⟩ rfl rfl rfl rfl rfl (by kernel_rfl) Try.func5 (by kernel_rfl)
    (of_decide_eq_true (by kernel_rfl)) (by unfold Func.isWrapper; first | (rw [if_pos (by decide +kernel)]; kernel_rfl) | (rw [if_neg (by decide +kernel)]; exact ⟨rfl, rfl⟩))
    (fun os started H enc _ => lifted os started H enc)
#print axioms proved

end Go.Proofs.Ytlnhehjdicpeoaa.stockPlays
