/-
  LineDrops: whoever is dropped is there no more, those behind move up; it may come again, behind all. For every input.
-/
import Derived.Test.YtmpomkejmokdlaaLine5
import Derived.Test.YtmpomkejmokdlaaReg
import Derived.Deep.DeepCutAuto
import Derived.Deep.CutBlock
import Derived.IntWalk
namespace Go.Proofs.Ytmpomkejmokdlaa.lineDrops
open Go.RowKit Go.ChangeShapes Go.WideShapes Go.ChangeAt

/-- The entry of a thread that waits. -/
abbrev rq (t : Int) : En := fresh (req t)

/-- The numbers a, a + 1, .. (n of them). -/
def run (a : Int) (n : Nat) : List Int := (List.range n).map fun (i : Nat) => a + (i : Int)
theorem run_len (a : Int) (n : Nat) : (run a n).length = n := by simp [run]
theorem run_succ (a : Int) (n : Nat) : run a (n + 1) = run a n ++ [a + n] := by simp [run, List.range_succ]

theorem run_nodup (a : Int) (n : Nat) : (run a n).Nodup := by
  rw [List.Nodup, List.pairwise_iff_getElem]
  intro i j hi hj hij
  simp [run]
  omega

theorem getD_mem (xs : List Int) (k : Nat) (h : k < xs.length) : xs.getD k 0 ∈ xs := by
  simp [List.getD, List.getElem?_eq_getElem h]

/-- The line holds the threads ts, the row o the numbers os. -/
structure Dr (w wr : World) (P : Nat) (v : Value) (ts : List Int) (o : Value) (os : List Int) : Prop where
  line : LineOf wr P v (ts.map rq)
  own : wr.ownsRow w.heap.size 3 1 o os.length (ints os)
  apart : ∀ k, o.ownBlock = some k → ¬ LineS P v k
  new : ∀ k, LineS P v k → w.heap.size ≤ k
  pure : Pure w wr

section
variable {w wr w2 : World} {P : Nat} {v v2 o o2 : Value} {ts ts2 os os2 : List Int}
theorem Dr.keep (h : Dr w wr P v ts o os) (hp : Pure wr w2) : Dr w w2 P v ts o os :=
  ⟨h.line.pure hp, hp.own h.own (fun _ _ f => f), h.apart, h.new, Pure.then h.pure hp⟩
theorem Dr.line' (h : Dr w wr P v ts o os) (hl : LineOf w2 P v2 (ts2.map rq)) (ho : Only (LineS P v) wr w2) (hat : v2.ownBlock = v.ownBlock ∨ ∃ q, v2.ownBlock = some q ∧ wr.heap.size ≤ q) : Dr w w2 P v2 ts2 o os := by
  refine ⟨hl, ho.own h.own h.apart, fun k hk => ?_, fun k hk => ?_, h.pure.trans ho (fun i hi e => by have := h.new i e; omega)⟩
  · rintro (rfl | e)
    · exact h.apart _ hk (.inl rfl)
    · rcases hat with hat | ⟨q, hat, hq⟩
      · exact h.apart _ hk (.inr (by rw [← hat]; exact e))
      · have h1 := (h.own.lt k hk).2
        have : q = k := by rw [hat] at e; injection e
        omega
  · rcases hk with rfl | e
    · exact h.new _ (.inl rfl)
    · rcases hat with hat | ⟨q, hat, hq⟩
      · exact h.new _ (.inr (by rw [← hat]; exact e))
      · have : q = k := by rw [hat] at e; injection e
        have := h.pure.size
        omega
theorem Dr.order' (h : Dr w wr P v ts o os) (hown : w2.ownsRow w.heap.size 3 1 o2 os2.length (ints os2)) (ho : Only (fun k => o.ownBlock = some k) wr w2) (hat : ∀ k, o2.ownBlock = some k → o.ownBlock = some k ∨ wr.heap.size ≤ k) : Dr w w2 P v ts o2 os2 := by
  refine ⟨h.line.only ho (fun k hk e => h.apart k e hk) (fun e he q hq => ?_), hown, fun k hk hl => ?_, h.new, h.pure.trans ho (fun i hi e => by have := (h.own.lt i e).1; omega)⟩
  · obtain ⟨t, _, rfl⟩ := List.mem_map.1 he
    simp [rq, fresh, Value.ownBlock] at hq
  · rcases hat k hk with hat | hq
    · exact h.apart k hat hl
    · have := h.line.lt k hl
      omega
theorem at_or {o2 o : Value} {B B' : Nat} (h : o2.ownBlock = o.ownBlock ∨ o2.ownBlock = some B) (hB : B' ≤ B) : ∀ k, o2.ownBlock = some k → o.ownBlock = some k ∨ B' ≤ k := fun k hk => by
  rcases h with h | h
  · exact .inl (h ▸ hk)
  · rw [h] at hk
    injection hk with hk
    exact .inr (by omega)
theorem Dr.len (h : Dr w wr P v ts o os) : ts.length ≤ 1000 := by simpa using h.line.few
end

/-! ### Plain -/
theorem isT_rq (t u : Int) : isT t (rq u) = (u == t) := rfl
theorem ix_rq {ts : List Int} {t : Int} (h : t ∉ ts) : ixI (isT t) (ts.map rq) = -1 := by
  refine ixI_none (fun j e he => ?_)
  rw [List.getElem?_map] at he
  obtain ⟨u, hu, rfl⟩ := Option.map_eq_some_iff.1 he
  rw [isT_rq, beq_eq_false_iff_ne]
  rintro rfl
  exact h (List.mem_of_getElem? hu)
theorem ix_rq_at {ts : List Int} {t : Int} {k : Nat} (hn : ts.Nodup) (h : ts[k]? = some t) : ixI (isT t) (ts.map rq) = k := by
  have hk := (List.getElem?_eq_some_iff.1 h)
  refine ixI_at (e := rq t) (by rw [List.getElem?_map, h]; rfl) (by rw [isT_rq]; simp) (fun j hj e he => ?_)
  rw [List.getElem?_map] at he
  obtain ⟨u, hu, rfl⟩ := Option.map_eq_some_iff.1 he
  rw [isT_rq, beq_eq_false_iff_ne]
  rintro rfl
  obtain ⟨h1, h2⟩ := hk
  obtain ⟨h3, h4⟩ := List.getElem?_eq_some_iff.1 hu
  exact (List.pairwise_iff_getElem.1 hn) j k h3 h1 hj (by rw [h2, h4])
theorem wait_rq (ts : List Int) : (ts.map rq).countP isW = ts.length := by
  rw [List.countP_eq_length.2 (fun e he => ?_), List.length_map]
  obtain ⟨t, _, rfl⟩ := List.mem_map.1 he
  rfl
theorem ixW_rq (t : Int) (ts : List Int) : ixI isW ((t :: ts).map rq) = 0 := ixI_at (k := 0) (e := rq t) rfl rfl (fun j hj => by omega)
theorem erase_map (ts : List Int) (k : Nat) : (ts.map rq).eraseIdx k = (ts.eraseIdx k).map rq := by simp [List.eraseIdx_eq_take_drop_succ]

theorem out (n : Int) (v : Value) (xs : List Int) (w : World) (hs : SlI w w.heap.size v xs) (h : n < 1 ∨ 50 < n ∨ 100 < xs.length) :
    Calls Try.prog 3 #[.int .i64 n, v] w fun e w' => e = .returned (.bool true) ∧ Pure w w' := by
  obtain ⟨A, c, rfl, hlc, hm⟩ := hs.len
  clear hs
  have go : ∀ (H : (n < 1) ∨ (¬ n < 1 ∧ 50 < n) ∨ (¬ n < 1 ∧ ¬ 50 < n ∧ 100 < xs.length)), Calls Try.prog 3 #[.int .i64 n, .slice A xs.length c] w fun e w' => e = .returned (.bool true) ∧ Pure w w' := by
    intro H
    clear h
    rcases H with h1 | ⟨h1, h2⟩ | ⟨h1, h2, h3⟩
    all_goals
      go_enter Try.func3, Try.ntmps3
      go_wp2_with fail
      refine (first_look _).mono ?_
      rintro e w1 ⟨rfl, hp1⟩
      have P1 := Lib.hid hp1
      clear hp1
      go_wp2_with fail
      refine (new_any w1).mono ?_
      rintro e w2 ⟨rfl, rfl⟩
      go_wp2_with fail
      refine (first_look _).mono ?_
      rintro e w2 ⟨rfl, hp2⟩
      have P2 := Lib.hid hp2
      clear hp2
      go_wp2_with fail
      go_ret
      exact ⟨rfl, Pure.then (P1.out.alloc _) P2.out⟩
  exact go (by omega)

/-- What Drop leaves of the threads, where the thread stands at a (-1: nowhere). -/
def dropAt (a : Int) (ts : List Int) : List Int := if 0 ≤ a then ts.eraseIdx a.toNat else ts
def At (ts : List Int) (d a : Int) : Prop := (a = -1 ∧ d ∉ ts) ∨ ∃ m : Nat, a = m ∧ ts[m]? = some d
theorem At.lt {ts : List Int} {d a : Int} (h : At ts d a) : -1 ≤ a ∧ a < ts.length := by
  rcases h with ⟨rfl, _⟩ | ⟨m, rfl, h⟩
  · omega
  · have := (List.getElem?_eq_some_iff.1 h).1
    omega

theorem drop_all {w wr : World} {P : Nat} {v o : Value} {ts os : List Int} (d a : Int) (h : Dr w wr P v ts o os) (hn : ts.Nodup) (ha : At ts d a) :
    Calls Try.prog 10 #[.pointer (some ⟨P, 0, none⟩), .int .i64 d] wr fun e' w' => ∃ v', e' = .returned (.bool (decide (0 ≤ a))) ∧ Dr w w' P v' (dropAt a ts) o os := by
  rcases ha with ⟨rfl, hno⟩ | ⟨m, rfl, hat⟩
  · exact (drop_no P v (ts.map rq) d _ h.line (ix_rq hno)).mono fun _ _ ⟨he, hp⟩ => ⟨v, he, h.keep hp⟩
  · have hm := (List.getElem?_eq_some_iff.1 hat).1
    refine (drop_yes P v (ts.map rq) d m _ h.line (ix_rq_at hn hat) (by simpa using hm)).mono fun _ _ ⟨v', he, hl, ho, hb⟩ => ⟨v', by rw [he]; simp, h.line' (ts2 := dropAt m ts) ?_ ho (.inl hb)⟩
    rw [erase_map] at hl
    simpa [dropAt] using hl

theorem wait_all {w wr : World} {P : Nat} {v o : Value} {ts os : List Int} (h : Dr w wr P v ts o os) :
    Calls Try.prog 12 #[.pointer (some ⟨P, 0, none⟩)] wr fun e w' => e = .returned (.int .i64 (ts.length : Nat)) ∧ Pure wr w' := by
  have := waits_any P v (ts.map rq) _ h.line
  rwa [wait_rq] at this

set_option maxRecDepth 100000 in
set_option maxHeartbeats 1000000 in
theorem main (n : Nat) (v : Value) (xs : List Int) (w : World) (hs : SlI w w.heap.size v xs) (h1 : 1 ≤ n) (h8 : n ≤ 50) (hl : xs.length ≤ 100) :
    Calls Try.prog 3 #[.int .i64 n, v] w fun e w' => e = .returned (.bool true) ∧ Pure w w' := by
  obtain ⟨i0, hi0, hz0, hz1, hz2⟩ := info_parts int_info
  obtain ⟨A, c, e, hlc, hcm, hrng, hcells⟩ := hs
  subst e
  have HR := Lib.hid hrng
  have HC := Lib.hid hcells
  clear hrng hcells
  go_enter Try.func3, Try.ntmps3
  go_wp2_with fail
  refine (first_look _).mono ?_
  rintro e w1 ⟨rfl, hp1⟩
  have P1 := Lib.hid hp1
  clear hp1
  go_wp2_with fail
  refine (new_any w1).mono ?_
  rintro e w2 ⟨rfl, rfl⟩
  have D0 := Lib.hid (show Dr w (w1.alloc (.cells #[.slice none 0 0] 50)) w1.heap.size (.slice none 0 0) [] (.slice none 0 0) [] from ⟨line_new w1, World.ownsRow_nil _ _ _ _, fun k hk => by simp [Value.ownBlock] at hk, fun k hk => by
    rcases hk with rfl | hk
    · exact P1.out.size
    · simp [Value.ownBlock] at hk, P1.out.alloc _⟩)
  generalize w1.alloc (.cells #[.slice none 0 0] 50) = W2 at *
  generalize w1.heap.size = P at *
  go_wp2_with fail
  have n1 : (1 : Int) ≤ (n : Int) := by omega
  go_loopw [6, 7] (fun o i wr => ∃ (j : Nat) (v : Value), j ≤ n ∧ i = .int .i64 j ∧ Dr w wr P v (run 0 j) o (run 0 j)) (fun _ i _ => n - (intOf i).toNat)
  case atStart => exact ⟨0, _, Nat.zero_le _, rfl, D0.out⟩
  case round =>
    obtain ⟨j, v, hj, rfl, hD⟩ := hrel
    obtain ⟨AO, cO, eo⟩ := own_form hD.own
    rw [run_len] at eo
    subst eo
    have HD := Lib.hid hD
    clear hD
    by_cases hlt : j < n
    · have hlt' : (j : Int) < (n : Int) := by omega
      go_wp2_with fail
      refine (add_yes P v ((run 0 j).map rq) (req j) none 0 0 _ HD.out.line (ix_rq (t := j) (by simp [run]; omega)) (by simp [run]; omega)).mono ?_
      rintro e w3 ⟨v3, rfl, hl3, ho3, hat3⟩
      have D3 := Lib.hid (HD.out.line' (ts2 := run 0 (j + 1)) (by rw [run_succ]; simpa using hl3) ho3 hat3)
      have OWN3 := Lib.hid (show w3.ownsRow w.heap.size 3 1 (.slice AO j cO) j (ints (run 0 j)) from by have := D3.out.own; rwa [run_len] at this)
      have hsz : w.heap.size ≤ (w3.alloc (.cells #[.int .i64 j] 3)).heap.size := Nat.le_trans D3.out.pure.size (by simp)
      clear hl3 ho3 hat3
      go_wp2_with (at_builtin; refine wpList_app _ rfl (.tmp 46) (.tmp 48) _ rfl w.heap.size 3 i0 _ 1 8 Try.underlying22 hi0 hz0 hz1 hz2 rfl (by omega) (.slice AO j cO) j (ints (run 0 j)) rfl (World.ownsRow.alloc (w := w3) OWN3.out _) _ 1 1 (ints [(j : Int)]) rfl (Src.one w3 _ _ _ rfl) (ints_one _) (by simp only [maxLen]; omega) (by omega) hsz ?_; intro v4 w4 hown4 hg4 hat4; obtain ⟨A4, c4, rfl⟩ := own_form hown4; have OWN4 := Lib.hid hown4; have G4 := Lib.hid hg4; have AT4 := Lib.hid hat4; clear hown4 hg4 hat4)
      go_roundw
      case rel =>
        refine ⟨j + 1, v3, hlt, by go_num, D3.out.order' (by rw [run_len, run_succ, ints_append]; simpa using OWN4.out) (Only.grown ((Only.refl _ w3).alloc _) G4.out (fun k _ e => e)) (at_or AT4.out (by simp))⟩
      case measure => simp [intOf]; omega
    · obtain rfl : j = n := by omega
      clear hlt hj
      go_wp2_with fail
      go_loopw [6, 8] (fun o i wr => ∃ (k : Nat) (v : Value) (ts : List Int), k ≤ xs.length ∧ i = .int .i64 k ∧ Dr w wr P v ts o ts ∧ ts.Nodup ∧ ts.length ≤ 50) (fun _ i _ => xs.length - (intOf i).toNat)
      case atStart => exact ⟨0, v, run 0 j, Nat.zero_le _, rfl, by have := HD.out; exact this, run_nodup 0 j, by rw [run_len]; omega⟩
      case round =>
        obtain ⟨k, v, ts, hk, rfl, hD, hnd, htl⟩ := hrel
        obtain ⟨AO, cO, eo⟩ := own_form hD.own
        subst eo
        have HD := Lib.hid hD
        have HN := Lib.hid hnd
        clear hD hnd
        by_cases hlt : k < xs.length
        · obtain ⟨b, off, hA, hb, hc⟩ := HC.out (by omega)
          subst hA
          have cx := (HD.out.pure.cell (p := ⟨b, off + k, none⟩) hb (fun f => f)).trans (hc k hlt)
          have hdr := HR.out (xs.getD k 0) (getD_mem xs k hlt)
          obtain ⟨d, ed⟩ : ∃ d, d = xs.getD k 0 := ⟨_, rfl⟩
          rw [← ed] at cx hdr
          have ED := Lib.hid ed
          clear ed
          have hlt' : (k : Int) < (xs.length : Int) := by omega
          have HC5 := Lib.hid (show ∀ j, j < xs.length → w.cell? ⟨b, off + j, none⟩ = some (.int .i64 (xs.getD j 0)) from hc)
          clear hc
          have CX := Lib.hid cx
          clear cx
          go_wp2_with fail
          go_loopw [9, 10] (fun at_ q wr2 => ∃ (j : Nat) (a : Int), j ≤ ts.length ∧ q = .int .i64 j ∧ at_ = .int .i64 a ∧ Hid ((a = -1 ∧ ∀ i, i < j → ts[i]? ≠ some d) ∨ ∃ m : Nat, m < j ∧ a = m ∧ ts[m]? = some d) ∧ Pure wr wr2) (fun _ q _ => ts.length - (intOf q).toNat)
          case atStart => exact ⟨0, -1, Nat.zero_le _, rfl, rfl, Lib.hid (.inl ⟨rfl, fun i hi => by omega⟩), Only.refl _ _⟩
          case round =>
            obtain ⟨j, a, hj, rfl, rfl, HA, hp⟩ := hrel
            have D2 := Lib.hid (HD.out.keep hp)
            have HP := Lib.hid hp
            have cx := (hp.cell (p := ⟨b, off + k, none⟩) (Nat.lt_of_lt_of_le hb HD.out.pure.size) (fun f => f)).trans CX.out
            clear hp
            by_cases hjt : j < ts.length
            · obtain ⟨gO, cO', hv, _, _⟩ := D2.out.own.form (n := ts.length) (by omega)
              injection hv with hv1 hv2 hv3
              subst hv1
              have co : wr.cell? ⟨gO, j, none⟩ = some (.int .i64 ts[j]) := by
                rw [D2.out.own.cellAt j (by omega), ints, List.getElem?_map, List.getElem?_eq_getElem hjt]
                rfl
              have HU := Lib.hid (List.getElem?_eq_getElem hjt)
              generalize ts[j] = u at *
              have hjt' : (j : Int) < (ts.length : Int) := by omega
              clear hv2 hv3
              by_cases hud : u = d
              · subst hud
                go_wp2_with fail
                go_quiet (fail)
                go_wp2_with fail
                all_goals
                  go_roundw
                  case rel => exact ⟨j + 1, j, hjt, by go_num, rfl, Lib.hid (.inr ⟨j, by omega, rfl, HU.out⟩), by first | exact HP.out.drewN _ | exact HP.out⟩
                  case measure => simp [intOf]; omega
              · have hud' : (u == d) = false := beq_eq_false_iff_ne.2 hud
                have HUD := Lib.hid hud
                clear hud
                go_wp2_with fail
                go_quiet (fail)
                go_wp2_with fail
                all_goals
                  go_roundw
                  case rel => exact ⟨j + 1, a, hjt, by go_num, rfl, Lib.hid (by
                    rcases HA.out with ⟨h1, h2⟩ | ⟨m, h1, h2, h3⟩
                    · refine .inl ⟨h1, fun i hi he => ?_⟩
                      rcases Nat.lt_or_ge i j with h | h
                      · exact h2 i h he
                      · obtain rfl : i = j := by omega
                        rw [HU.out] at he
                        exact HUD.out (by injection he)
                    · exact .inr ⟨m, by omega, h2, h3⟩), by first | exact HP.out.drewN _ | exact HP.out⟩
                  case measure => simp [intOf]; omega
            · obtain rfl : j = ts.length := by omega
              clear hjt hj
              have HAT := Lib.hid (show At ts d a from by
                rcases HA.out with ⟨rfl, hno⟩ | ⟨m, hm, rfl, hat⟩
                · refine .inl ⟨rfl, fun hin => ?_⟩
                  obtain ⟨i, hi⟩ := List.mem_iff_getElem?.1 hin
                  exact hno i (List.getElem?_eq_some_iff.1 hi).1 hi
                · exact .inr ⟨m, rfl, hat⟩)
              obtain ⟨ha1, ha2⟩ := HAT.out.lt
              clear HA
              go_wp2_with fail
              refine (drop_all d a D2.out HN.out HAT.out).mono ?_
              rintro e w5 ⟨v5, rfl, hD5⟩
              have D5 := Lib.hid hD5
              have cx5 : w5.cell? ⟨b, off + k, none⟩ = some (.int .i64 d) := (hD5.pure.cell (p := ⟨b, off + k, none⟩) hb (fun f => f)).trans (by rw [ED.out]; exact HC5.out k hlt)
              clear hD5 cx
              go_upto_if 82 with fail
              go_cut [6] (fun s6 wx => ∃ (v7 : Value) (ts7 : List Int), Dr w wx P v7 ts7 s6 ts7 ∧ ts7.Nodup ∧ ts7.length ≤ 50)
              case first =>
                rcases HAT.out with ⟨rfl, hno⟩ | ⟨m, rfl, hat⟩
                · have HR7 := Lib.hid (show Dr w w5 P v5 ts (.slice AO ts.length cO) ts from D5.out)
                  clear hno
                  go_wp2_with fail
                  go_meet
                  exact ⟨v5, ts, HR7.out, HN.out, htl⟩
                · have hm := (List.getElem?_eq_some_iff.1 hat).1
                  have D6 := Lib.hid (show Dr w w5 P v5 (ts.eraseIdx m) (.slice AO ts.length cO) ts from by have := D5.out; simpa [dropAt] using this)
                  have HAT2 := Lib.hid hat
                  clear hat cx5
                  go_wp2_with fail
                  go_cut [6] (fun s6 wx => Dr w wx P v5 (ts.eraseIdx m) s6 (ts.eraseIdx m))
                  case first =>
                    obtain ⟨hcap, hmax⟩ := own_cap D6.out.own
                    obtain ⟨gO, cO', hv, _, _⟩ := D6.out.own.form (n := ts.length) (by omega)
                    injection hv with hv1 hv2 hv3
                    subst hv1 hv3
                    clear hv2
                    have O5 := Lib.hid (show (w5.drew.alloc (.cells #[] 3)).ownsRow w.heap.size 3 1 (.slice (some ⟨gO, 0, none⟩) ts.length cO) ts.length (ints ts) from World.ownsRow.alloc (w := w5.drew) D6.out.own _)
                    have hW : Only (fun _ => False) w5 (w5.drew.alloc (.cells #[] 3)) := (show Only _ w5 w5.drew from ⟨rfl, rfl, rfl, Nat.le_refl _, fun _ _ _ => rfl⟩).alloc _
                    have HW := Lib.hid hW
                    have hlm := D6.out.own.lt gO rfl
                    have hic : m ≤ cO := by omega
                    have hjc : m + 1 ≤ cO := by omega
                    have b0 : (0 : Int) ≤ (m : Int) + 1 := by omega
                    have b1 : (m : Int) + 1 ≤ (ts.length : Int) := by omega
                    clear hW
                    obtain ⟨A9, hA9⟩ : ∃ A9, (if cO = m + 1 then some (⟨gO, 0, none⟩ : Addr) else some ⟨gO, m + 1, none⟩) = A9 := ⟨_, rfl⟩
                    have HA9 := Lib.hid (show ∀ w' : World, w'.ownsRow w.heap.size 3 1 (.slice (some ⟨gO, 0, none⟩) ts.length cO) ts.length (ints ts) → Src w' 1 A9 (ts.length - (m + 1)) (ints (ts.drop (m + 1))) from fun w' h => hA9 ▸ Src.behind h (m + 1) (by omega) hcap)
                    have hwr : IntKind.i64.wrap ((m : Int) + 1) = (m : Int) + 1 := IntWalk.i64_in _ (by omega)
                    have htn : ((m : Int) + 1).toNat = m + 1 := by omega
                    go_region_law ((first | (refine step_app rfl (.tmp 83) (.tmp 86) _ rfl w5.heap.size 3 i0 _ 1 8 Try.underlying22 hi0 hz0 hz1 hz2 rfl (by omega) _ 0 [] rfl (World.ownsRow_made w5.drew #[] 0 (Nat.le_refl _) (by simp [maxLen]) rfl) _ m cO (ints (ts.take m)) rfl (Src.front O5.out m (by omega)) (ints_one _) (by simp only [maxLen]; omega) (by omega) (by simp) ?_; intro v6 w6 hown6 hg6 hat6; simp only [Nat.zero_add, List.nil_append] at hown6; obtain ⟨A6, c6, rfl⟩ := own_form hown6; have OWN6 := Lib.hid hown6; have HW6 := Lib.hid (HW.out.grown hg6 (fun q hq e => absurd (Option.some.inj e).symm (Nat.ne_of_lt hq))); have O6 := Lib.hid (World.ownsRow.kept O5.out hg6 (.inr (fun e => absurd (Option.some.inj e) (Nat.ne_of_lt hlm.2)))); have hsz6 := hg6.size; clear hown6 hg6 hat6) | (refine step_app rfl (.tmp 87) (.tmp 91) _ rfl w5.heap.size 3 i0 _ 1 8 Try.underlying22 hi0 hz0 hz1 hz2 rfl (by omega) (.slice A6 m c6) m (ints (ts.take m)) rfl OWN6.out _ (ts.length - (m + 1)) (cO - (m + 1)) (ints (ts.drop (m + 1))) rfl (HA9.out _ O6.out) (ints_one _) (by simp only [maxLen]; omega) (by omega) HW6.out.size ?_; intro v7 w7 hown7 hg7 hat7; obtain ⟨A7, c7, rfl⟩ := own_form hown7; have OWN7 := Lib.hid hown7; have HW7 := Lib.hid (HW6.out.grown hg7 (fun q hq e => by have := (OWN6.out.lt q e).1; omega)); clear hown7 hg7 hat7)))
                    go_wp2_with fail
                    go_meet
                    clear hwr htn hA9
                    have elen : (ts.eraseIdx m).length = m + (ts.length - (m + 1)) := by rw [List.length_eraseIdx_of_lt hm]; omega
                    refine D6.out.order' ?_ (HW7.out.mono (fun _ _ f => f.elim)) (fun q hq => .inr (OWN7.out.lt q hq).1)
                    have h := own_mono OWN7.out D6.out.pure.size
                    rw [elen, List.eraseIdx_eq_take_drop_succ, ints_append]
                    exact h
                  case rest =>
                    have D7 := Lib.hid hcut
                    clear hcut
                    have cxc : wc.cell? ⟨b, off + k, none⟩ = some (.int .i64 d) := (D7.out.pure.cell (p := ⟨b, off + k, none⟩) hb (fun f => f)).trans (by rw [ED.out]; exact HC5.out k hlt)
                    have HNE := Lib.hid (show (ts.eraseIdx m).Nodup from List.Nodup.sublist (List.eraseIdx_sublist ..) HN.out)
                    have htl2 : (ts.eraseIdx m).length ≤ 49 := by rw [List.length_eraseIdx_of_lt hm]; omega
                    have hbit : bits .and .i64 (k : Int) 1 = ((k &&& 1 : Nat) : Int) := i64_and_nat k 1 (by omega) (by omega)
                    obtain ⟨AO7, cO7, eo7⟩ := own_form D7.out.own
                    subst eo7
                    by_cases hpar : k &&& 1 = 0
                    · have hpar' : (bits .and .i64 (k : Int) 1 == 0) = true := by rw [hbit, hpar]; rfl
                      have HNI := Lib.hid (show d ∉ ts.eraseIdx m from fun hin => by
                        have hnd := HN.out
                        obtain ⟨i, hi⟩ := List.mem_iff_getElem?.1 hin
                        rw [List.getElem?_eraseIdx] at hi
                        obtain ⟨h1, h2⟩ := List.getElem?_eq_some_iff.1 HAT2.out
                        split at hi
                        · obtain ⟨h3, h4⟩ := List.getElem?_eq_some_iff.1 hi
                          exact (List.pairwise_iff_getElem.1 hnd) i m h3 h1 (by omega) (by rw [h2, h4])
                        · obtain ⟨h3, h4⟩ := List.getElem?_eq_some_iff.1 hi
                          exact (List.pairwise_iff_getElem.1 hnd) m (i + 1) h1 h3 (by omega) (by rw [h2, h4]))
                      clear hpar hbit
                      go_wp2_with fail
                      refine (add_yes P v5 ((ts.eraseIdx m).map rq) (req d) none 0 0 _ D7.out.line (ix_rq HNI.out) (by simp; omega)).mono ?_
                      rintro e w8 ⟨v8, rfl, hl8, ho8, hat8⟩
                      have D8 := Lib.hid (D7.out.line' (ts2 := ts.eraseIdx m ++ [d]) (by simpa using hl8) ho8 hat8)
                      have cx8 : w8.cell? ⟨b, off + k, none⟩ = some (.int .i64 d) := (D8.out.pure.cell (p := ⟨b, off + k, none⟩) hb (fun f => f)).trans (by rw [ED.out]; exact HC5.out k hlt)
                      have hsz : w.heap.size ≤ (w8.alloc (.cells #[.int .i64 d] 3)).heap.size := Nat.le_trans D8.out.pure.size (by simp)
                      clear hl8 ho8 hat8 cxc
                      go_wp2_with (at_builtin; refine wpList_app _ rfl (.tmp 104) (.tmp 109) _ rfl w.heap.size 3 i0 _ 1 8 Try.underlying22 hi0 hz0 hz1 hz2 rfl (by omega) (.slice AO7 (ts.eraseIdx m).length cO7) (ts.eraseIdx m).length (ints (ts.eraseIdx m)) rfl (World.ownsRow.alloc (w := w8) D8.out.own _) _ 1 1 (ints [d]) rfl (Src.one w8 _ _ _ rfl) (ints_one _) (by simp only [maxLen]; omega) (by omega) hsz ?_; intro v9 w9 hown9 hg9 hat9; obtain ⟨A9, c9, rfl⟩ := own_form hown9; have OWN9 := Lib.hid hown9; have G9 := Lib.hid hg9; have AT9 := Lib.hid hat9; clear hown9 hg9 hat9)
                      go_meet
                      refine ⟨v8, ts.eraseIdx m ++ [d], D8.out.order' (by rw [ints_append, List.length_append]; exact OWN9.out) (Only.grown ((Only.refl _ w8).alloc _) G9.out (fun k _ e => e)) (at_or AT9.out (by simp)), ?_, by rw [List.length_append]; simp; omega⟩
                      rw [List.nodup_append]
                      exact ⟨HNE.out, by simp, fun x hx y hy e => HNI.out (by simp at hy; subst hy e; exact hx)⟩
                    · have hpar' : (bits .and .i64 (k : Int) 1 == 0) = false := by rw [hbit, beq_eq_false_iff_ne]; omega
                      clear hpar hbit
                      go_wp2_with fail
                      go_meet
                      exact ⟨v5, ts.eraseIdx m, D7.out, HNE.out, by omega⟩
              case rest =>
                obtain ⟨v7, ts7, hD7, hn7, hl7⟩ := hcut
                obtain ⟨A7, c7, e7⟩ := own_form hD7.own
                subst e7
                have D7 := Lib.hid hD7
                have HN7 := Lib.hid hn7
                clear hD7 hn7
                by_cases htz : ts7.length = 0
                · have HX := Lib.hid (show ixI isW (ts7.map rq) = -1 from by rw [List.eq_nil_of_length_eq_zero htz]; rfl)
                  have z0 : decide (0 < ts7.length) = false := decide_eq_false (by omega)
                  clear htz
                  go_wp2_with fail
                  refine (lineFirst_no P v7 (ts7.map rq) _ D7.out.line HX.out).mono ?_
                  rintro e w7 ⟨rfl, hp7⟩
                  have hp8 := hp7.alloc (.cells #[.int .i64 0, .int .i64 0, .int .i64 0, .int .i64 0, .int .i64 0, .int .i64 0, .slice none 0 0] 28)
                  have D8 := Lib.hid (D7.out.keep hp8)
                  clear hp7 hp8
                  go_wp2_with fail
                  refine region_class (fun w' => Dr w w' P v7 ts7 (.slice A7 ts7.length c7) ts7) (D8.out.keep ((Only.refl _ _).drewN 1)) (by kernel_rfl) (by kernel_rfl) ?_
                  intro S f hS hf hmk
                  have HF := Lib.hid hf
                  have HM := Lib.hid hmk
                  clear hf hmk
                  repeat (go_big_quiet_step ((go_at_call 12; exact class_call HM.out (HF.out _) (fun _ hd hp => hd.keep hp) (wait_all (HF.out _)))))
                  refine wpQuiet_nil ?_
                  rintro w9 ⟨s9, e9⟩
                  have D9 := Lib.hid (HF.out s9)
                  rw [← e9] at D9
                  clear e9 HF HM hS s9
                  go_wp2_with fail
                  go_roundw
                  case rel => exact ⟨k + 1, v7, ts7, hlt, by go_num, D9.out, HN7.out, hl7⟩
                  case measure => simp [intOf]; omega
                · have hpos : 0 < ts7.length := by omega
                  obtain ⟨t, ht⟩ : ∃ t, ts7[0]? = some t := ⟨ts7[0], List.getElem?_eq_getElem hpos⟩
                  have HX := Lib.hid (show ixI isW (ts7.map rq) = ((0 : Nat) : Int) from by
                    cases ts7 with
                    | nil => simp at hpos
                    | cons t ts => exact ixW_rq t ts)
                  obtain ⟨gO, cO', hv, _, _⟩ := D7.out.own.form (n := ts7.length) hpos
                  injection hv with hv1 hv2 hv3
                  subst hv1
                  clear hv2 hv3
                  have z0 : decide (0 < ts7.length) = true := decide_eq_true hpos
                  have z1 : (0 : Int) < ((ts7.length : Nat) : Int) := by omega
                  have HT := Lib.hid ht
                  clear htz ht
                  go_wp2_with fail
                  refine (lineFirst_in P v7 (ts7.map rq) 0 (rq t) _ D7.out.line (by rw [List.getElem?_map, HT.out]; rfl) HX.out).mono ?_
                  rintro e w7 ⟨Ag, cg, rfl, hp7, hs7, hq7⟩
                  have hp8 := hp7.alloc (.cells #[.int .i64 t, .int .i64 0, .int .i64 0, .int .i64 0, .int .i64 0, .int .i64 (-1), .slice Ag 0 cg] 28)
                  have D8 := Lib.hid (D7.out.keep hp8)
                  have hr8 : (w7.alloc (.cells #[.int .i64 t, .int .i64 0, .int .i64 0, .int .i64 0, .int .i64 0, .int .i64 (-1), .slice Ag 0 cg] 28)).cell? ⟨w7.heap.size, 0, none⟩ = some (.int .i64 t) := by rw [cell_of_row _ w7.heap.size _ _ _ (0, 0) (heap_alloc_new w7 _)]; rfl
                  have HR8 := Lib.hid hr8
                  clear hp7 hp8 hs7 hq7 hr8
                  dsimp only [fresh, req, reqV, rq, List.length_nil]
                  go_wp2_with fail
                  refine region_class (fun w' => Dr w w' P v7 ts7 (.slice (some ⟨gO, 0, none⟩) ts7.length c7) ts7 ∧ w'.cell? ⟨w7.heap.size, 0, none⟩ = some (.int .i64 t)) ⟨D8.out.keep ((Only.refl _ _).drewN 1), HR8.out⟩ (by kernel_rfl) (by kernel_rfl) ?_
                  intro S f hS hf hmk
                  have c1 : ∀ s, (f s).cell? ⟨w7.heap.size, 0, none⟩ = some (.int .i64 t) := fun s => (hf s).2
                  have c2 : ∀ s, (f s).cell? ⟨gO, 0, none⟩ = some (.int .i64 t) := fun s => by
                    rw [(hf s).1.own.cellAt 0 (by omega), ints, List.getElem?_map, HT.out]
                    rfl
                  have HF := Lib.hid hf
                  have HM := Lib.hid hmk
                  clear hf hmk
                  repeat (go_big_quiet_step ((go_at_call 12; exact class_call HM.out (HF.out _) (fun _ hd hp => ⟨hd.1.keep hp, hp.keep hd.2⟩) (wait_all (HF.out _).1))))
                  clear c1 c2
                  refine wpQuiet_nil ?_
                  rintro w9 ⟨s9, e9⟩
                  have D9 := Lib.hid ((HF.out s9).1)
                  rw [← e9] at D9
                  clear e9 HF HM hS s9
                  go_wp2_with fail
                  go_roundw
                  case rel => exact ⟨k + 1, v7, ts7, hlt, by go_num, D9.out, HN7.out, hl7⟩
                  case measure => simp [intOf]; omega
        · obtain rfl : k = xs.length := by omega
          go_wp2_with fail
          refine (first_look _).mono ?_
          rintro e w9 ⟨rfl, hp9⟩
          have P9 := Lib.hid hp9
          clear hp9
          go_wp2_with fail
          go_ret
          exact ⟨rfl, Pure.then HD.out.pure P9.out⟩

theorem walk (w : World) (n : Int) (_ : -9223372036854775808 ≤ n ∧ n ≤ 9223372036854775807) (v : Value) (xs : List Int) (hs : SlI w w.heap.size v xs) :
    Calls Try.prog 3 #[.int .i64 n, v] w fun e w' => e = .returned (.bool true) ∧ Pure w w' := by
  by_cases h : n < 1 ∨ 50 < n ∨ 100 < xs.length
  · exact out n v xs w hs h
  · obtain ⟨m, rfl⟩ := Int.eq_ofNat_of_zero_le (show 0 ≤ n by omega)
    exact main m v xs w hs (by omega) (by omega) (by omega)

set_option maxRecDepth 100000 in
theorem lifted (os : Os) (started : os.Started) (H : Type) (enc : TypeId × Value → H) :
    ReturnsInHanded {} Try.checked os 3 .any (Rows.lineDropsSpec.pre6 enc Try.prog Try.f3 Rows.lineDropsRow.domain false) (Rows.lineDropsSpec.post enc Try.prog Try.f3 false true false false) :=
  lift_law (C := Try.checked) own started (by kernel_rfl) Try.func3 laidOut (by kernel_rfl) rfl rfl Try.underlying4
    (fun ds h => by match ds, h with | [_, _], _ => rfl)
    (ChangeSpec.witness6 (enc := enc) (C := Try.checked) false ⟨#[], #[.int .i64 0, .slice none 0 0], []⟩ 8 (by kernel_rfl) (by kernel_rfl) (by kernel_rfl) (by kernel_rfl))
    (fun W base args ds ps hval hA hlt => by
      have hA' : DataW.TrodAll enc Try.prog W 0 (fun _ => true) true Try.f3.params.toList args.toList ds ps := hA
      rw [Try.params3] at hA'
      have hval' : ∀ (j : Nat) t v, Try.f3.params[j]? = some t → args[j]? = some v → Value.okWide Try.prog W .any base t v := hval
      rw [Try.params3] at hval'
      obtain ⟨v0, vs0, d0, ds0, p0, q0, hargs, rfl, rfl, h0, r0⟩ := trodAll_cons hA'
      obtain ⟨v1, vs1, d1, ds1, p1, q1, rfl, rfl, rfl, h1, r1⟩ := trodAll_cons r0
      obtain ⟨rfl, rfl, rfl⟩ := trodAll_nil r1
      obtain rfl : args = #[v0, v1] := by cases args; simp_all
      obtain ⟨a0, rfl, rfl, rfl, w0⟩ := open_int Try.underlying3 (hval' 0 3 v0 rfl rfl) h0
      obtain ⟨xs1, s1⟩ := open_sl Try.underlying22 Try.underlying3 (by kernel_rfl) (hval' 1 22 v1 rfl rfl) h1
      exact (walk W a0 (int_bounds w0) _ xs1 s1).mono fun e W' ⟨he, hp⟩ => ⟨he, hp.below⟩)

/-- The statement. -/
theorem proved : Rows.LineDropsSaid :=
  OpenClaim.holds_of_wide 3 Try.f3 rfl rfl rfl rfl rfl rfl rfl ⟨rfl, rfl, rfl, rfl, rfl⟩ rfl rfl rfl rfl rfl (by kernel_rfl) Try.func3 (by kernel_rfl)
    (of_decide_eq_true (by kernel_rfl)) (by unfold Func.isWrapper; first | (rw [if_pos (by decide +kernel)]; kernel_rfl) | (rw [if_neg (by decide +kernel)]; exact ⟨rfl, rfl⟩))
    (fun os started H enc _ => lifted os started H enc)
#print axioms proved

end Go.Proofs.Ytmpomkejmokdlaa.lineDrops
