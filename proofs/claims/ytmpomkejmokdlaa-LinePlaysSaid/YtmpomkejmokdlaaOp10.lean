/-
  The operations that chapter 10's laws take, opened; contracts of Few, CopyInts and Has.
-/
import Derived.Test.YtmpomkejmokdlaaStructs
import Derived.Test.YtmpomkejmokdlaaInts
import Derived.Test.YtmpomkejmokdlaaLine2
import Derived.Test.YtmpomkejmokdlaaTail
namespace Go.Proofs.Ytmpomkejmokdlaa
open Go.RowKit Go.ChangeShapes Go.WideShapes Go.ChangeAt

/-- An operation: its kind, its numbers, the value of its slice, the slice's numbers. -/
structure Op10 where
  kind : Int
  thread : Int
  frags : Int
  spine : Int
  at_ : Int
  v : Value
  xs : List Int
instance : Inhabited Op10 := ⟨⟨0, 0, 0, 0, 0, .slice none 0 0, []⟩⟩

/-- The value v is a slice of operations that reads as l. -/
def OpsR (w : World) (B : Nat) (v : Value) (l : List Op10) : Prop :=
  (∃ (A : Option Addr) (c : Nat), v = .slice A l.length c ∧ l.length ≤ c ∧ c ≤ 9223372036854775807 ∧
    (0 < l.length → ∃ b off, A = some ⟨b, off, none⟩ ∧ b < B ∧ ∀ j o, l[j]? = some o → w.cell? ⟨b, off + j * 6, none⟩ = some (.int .i64 o.kind) ∧ w.cell? ⟨b, off + j * 6 + 1, none⟩ = some (.int .i64 o.thread) ∧ w.cell? ⟨b, off + j * 6 + 2, none⟩ = some (.int .i64 o.frags) ∧
      w.cell? ⟨b, off + j * 6 + 3, none⟩ = some (.int .i64 o.spine) ∧ w.cell? ⟨b, off + j * 6 + 4, none⟩ = some (.int .i64 o.at_) ∧ w.cell? ⟨b, off + j * 6 + 5, none⟩ = some o.v)) ∧
  ∀ o ∈ l, SlI w B o.v o.xs ∧ -9223372036854775808 ≤ o.thread ∧ o.thread ≤ 9223372036854775807

theorem OpsR.pure {w w' : World} {v : Value} {l : List Op10} (h : OpsR w w.heap.size v l) (hp : Pure w w') : OpsR w' w'.heap.size v l := by
  obtain ⟨⟨A, c, e, h1, h2, h3⟩, h4⟩ := h
  refine ⟨⟨A, c, e, h1, h2, fun hl => ?_⟩, fun s hs => ⟨(h4 s hs).1.only hp (fun _ _ f => f), (h4 s hs).2⟩⟩
  obtain ⟨b, off, rfl, hb, hc⟩ := h3 hl
  refine ⟨b, off, rfl, Nat.lt_of_lt_of_le hb hp.size, fun j s hj => ?_⟩
  obtain ⟨c1, c2, c3, c4, c5, c6⟩ := hc j s hj
  exact ⟨hp.keep c1, hp.keep c2, hp.keep c3, hp.keep c4, hp.keep c5, hp.keep c6⟩

theorem open_ops {H : Type} {enc : TypeId × Value → H} {W : World} {b0 base : Nat} {v : Value} {d : DataW H} {ps : List MemPlace} {r : Reach}
    (hval : Value.okWide Try.prog W r b0 34 v) (h : DataW.Trod enc Try.prog W base (fun _ => true) true 34 v d ps) : ∃ l, OpsR W W.heap.size v l := by
  obtain ⟨A, n, c, rfl, h1, h2, h3⟩ := open_structs (k := 6) Try.underlying34 Try.underlying37 (by kernel_rfl) (by kernel_rfl) rfl hval h
  rcases Nat.eq_zero_or_pos n with rfl | hn
  · exact ⟨[], ⟨A, c, rfl, Nat.zero_le _, h2, fun h => by simp at h⟩, fun o ho => by simp at ho⟩
  · obtain ⟨b, off, rfl, hb, hc⟩ := h3 hn (by omega)
    have each : ∀ i, i < n → ∃ o : Op10, (W.cell? ⟨b, off + i * 6, none⟩ = some (.int .i64 o.kind) ∧ W.cell? ⟨b, off + i * 6 + 1, none⟩ = some (.int .i64 o.thread) ∧ W.cell? ⟨b, off + i * 6 + 2, none⟩ = some (.int .i64 o.frags) ∧
        W.cell? ⟨b, off + i * 6 + 3, none⟩ = some (.int .i64 o.spine) ∧ W.cell? ⟨b, off + i * 6 + 4, none⟩ = some (.int .i64 o.at_) ∧ W.cell? ⟨b, off + i * 6 + 5, none⟩ = some o.v) ∧
        SlI W W.heap.size o.v o.xs ∧ -9223372036854775808 ≤ o.thread ∧ o.thread ≤ 9223372036854775807 := by
      intro i hi
      obtain ⟨u0, f0, y0, c0, t0⟩ := hc i hi 0 _ rfl
      obtain ⟨u1, f1, y1, c1, t1⟩ := hc i hi 1 _ rfl
      obtain ⟨u2, f2, y2, c2, t2⟩ := hc i hi 2 _ rfl
      obtain ⟨u3, f3, y3, c3, t3⟩ := hc i hi 3 _ rfl
      obtain ⟨u4, f4, y4, c4, t4⟩ := hc i hi 4 _ rfl
      obtain ⟨u5, f5, y5, c5, t5⟩ := hc i hi 5 _ rfl
      obtain ⟨k, rfl, _, _⟩ := open_intc Try.underlying3 t0
      obtain ⟨m, rfl, m0, m1⟩ := open_intc Try.underlying3 t1
      obtain ⟨n2, rfl, _, _⟩ := open_intc Try.underlying3 t2
      obtain ⟨n3, rfl, _, _⟩ := open_intc Try.underlying3 t3
      obtain ⟨n4, rfl, _, _⟩ := open_intc Try.underlying3 t4
      obtain ⟨xs, hs⟩ := open_slc Try.underlying22 Try.underlying3 (by kernel_rfl) t5
      exact ⟨⟨k, m, n2, n3, n4, u5, xs⟩, ⟨c0, c1, c2, c3, c4, c5⟩, hs, m0, m1⟩
    obtain ⟨f, hf⟩ := Go.Deep.choose_lt each
    refine ⟨(List.range n).map f, ⟨_, c, by simp, by simpa using h1, h2, fun _ => ⟨b, off, rfl, hb, fun j o ho => ?_⟩⟩, fun o ho => ?_⟩
    · have hj : j < n := by
        have := (List.getElem?_eq_some_iff.1 ho).1
        simpa using this
      have ho' : f j = o := by simpa [hj] using ho
      subst ho'
      exact (hf j hj).1
    · obtain ⟨i, hi, rfl⟩ := List.mem_map.1 ho
      exact (hf i (List.mem_range.1 hi)).2

/-! ### Few -/
def tot (l : List Op10) : Nat := (l.map fun o => min o.xs.length 2001).sum
theorem tot_succ (l : List Op10) (k : Nat) (o : Op10) (h : l[k]? = some o) : tot (l.take (k + 1)) = tot (l.take k) + min o.xs.length 2001 := by
  rw [List.take_add_one, h]
  simp [tot]
theorem tot_le (l : List Op10) (k : Nat) : tot (l.take k) ≤ 2001 * k := by
  induction k with
  | zero => simp [tot]
  | succ k ih =>
    cases h : l[k]? with
    | none =>
      rw [List.take_add_one, h]
      simp
      omega
    | some o =>
      rw [tot_succ l k o h]
      omega
theorem tot_mem {l : List Op10} {o : Op10} (h : o ∈ l) : min o.xs.length 2001 ≤ tot l := by
  induction l with
  | nil => simp at h
  | cons a l ih =>
    simp only [tot, List.map_cons, List.sum_cons] at ih ⊢
    rcases List.mem_cons.1 h with rfl | h
    · omega
    · have := ih h
      omega
/-- Operations that are few and small. -/
def fewB (l : List Op10) : Bool := decide (l.length ≤ 200) && decide (tot (l.take 200) ≤ 2000)
theorem fewB_yes {l : List Op10} (h : fewB l = true) : l.length ≤ 200 ∧ ∀ o ∈ l, o.xs.length ≤ 2000 := by
  simp only [fewB, Bool.and_eq_true, decide_eq_true_eq] at h
  refine ⟨h.1, fun o ho => ?_⟩
  rw [List.take_of_length_le h.1] at h
  have := tot_mem ho
  omega

set_option maxRecDepth 100000 in
theorem few_any (v : Value) (l : List Op10) (w : World) (hl : OpsR w w.heap.size v l) :
    Calls Try.prog 13 #[v] w fun e w' => e = .returned (.bool (fewB l)) ∧ w = w' := by
  obtain ⟨⟨A, c, rfl, h1, h2, h3⟩, h4⟩ := hl
  have H3 := Lib.hid h3
  have H4 := Lib.hid h4
  clear h3 h4
  go_enter Try.func13, Try.ntmps13
  go_wp2_with fail
  go_loop [3, 4] (fun n i => ∃ k m : Nat, k ≤ l.length ∧ k ≤ 200 ∧ m ≤ 2001 * k ∧ Hid (m = tot (l.take k)) ∧ i = .int .i64 k ∧ n = .int .i64 m) (fun _ i => 200 - (intOf i).toNat)
  case atStart => exact ⟨0, 0, Nat.zero_le _, by omega, by omega, Lib.hid (by simp [tot]), by first | rfl | simp, by first | rfl | simp⟩
  case round =>
    obtain ⟨k, m, hk, hk2, hm, HT, rfl, rfl⟩ := hrel
    by_cases hlt : k < l.length ∧ k < 200
    · obtain ⟨hlt, hlt2⟩ := hlt
      obtain ⟨b, off, hA, hb, hc⟩ := H3.out (by omega)
      subst hA
      obtain ⟨o, ho⟩ : ∃ o, l[k]? = some o := ⟨l[k], List.getElem?_eq_getElem hlt⟩
      obtain ⟨_, _, _, _, _, d5⟩ := hc k o ho
      obtain ⟨L, d, hv, hd1, hd2, _⟩ := (H4.out o (List.mem_of_getElem? ho)).1
      unfold maxLen at hd2
      rw [hv] at d5
      have HS := Lib.hid (tot_succ l k o ho)
      clear hc ho hv
      by_cases hs : o.xs.length ≤ 2001
      · go_wp2_with fail
        go_round
        case rel => exact ⟨k + 1, m + o.xs.length, by omega, by omega, by omega, Lib.hid (by rw [HS.out, ← HT.out]; omega), by first | rfl | simp, by first | rfl | (simp; done) | (simp; omega)⟩
        case measure => simp [intOf]; omega
      · go_wp2_with fail
        go_round
        case rel => exact ⟨k + 1, m + 2001, by omega, by omega, by omega, Lib.hid (by rw [HS.out, ← HT.out]; omega), by first | rfl | simp, by first | rfl | (simp; done) | (simp; omega)⟩
        case measure => simp [intOf]; omega
    · by_cases h200 : l.length ≤ 200
      · obtain rfl : k = l.length := by omega
        have HF := Lib.hid (show decide (m ≤ 2000) = fewB l from by rw [HT.out, fewB, List.take_length, List.take_of_length_le h200]; simp [h200])
        clear hlt
        go_wp2_with fail
        go_ret
        exact ⟨ret_b (by rw [← HF.out]; exact decide_eq_decide.2 (by omega)), rfl⟩
      · obtain rfl : k = 200 := by omega
        have HF := Lib.hid (show fewB l = false from by simp [fewB, h200])
        have hlt' : 200 < l.length := by omega
        clear hlt
        go_wp2_with fail
        go_ret
        exact ⟨ret_b HF.out, rfl⟩

/-- sporef.CopyInts: a row of the call's own with the same numbers. -/
theorem copy_any (v : Value) (xs : List Int) (w : World) (h : SlI w w.heap.size v xs) (hx : xs.length ≤ 1000000) :
    Calls Try.prog 19 #[v] w fun e w' => ∃ v', e = .returned v' ∧ Pure w w' ∧ w'.ownsRow w.heap.size 3 1 v' xs.length (ints xs) := by
  obtain ⟨i0, hi0, hz0, hz1, hz2⟩ := info_parts int_info
  obtain ⟨A, c, rfl, h1, h2, h3, h4⟩ := id h
  have hs := h.src.2
  have hs' : Src (w.alloc (.cells #[] 3)) 1 A xs.length (ints xs) := hs.below ((Below.refl w.heap.size w).alloc (Nat.le_refl _) _) (fun b hm e => by obtain ⟨b', off, e', hb, _⟩ := h4 hm; rw [e'] at e; injection e with e; subst e; exact hb)
  clear h h4
  go_enter Try.func19, Try.ntmps19
  go_wp2_with (at_builtin; refine wpList_app _ rfl (.tmp 3) (.tmp 4) _ rfl w.heap.size 3 i0 _ 1 8 Try.underlying22 hi0 hz0 hz1 hz2 rfl (by omega) _ 0 [] rfl (World.ownsRow_made w #[] 0 (Nat.le_refl _) (by simp [maxLen]) rfl) _ _ _ _ rfl hs' (ints_one xs) (by simp only [maxLen]; omega) (by omega) (by simp) ?_; intro v1 w1 hown1 hg1 hat1)
  go_ret
  refine ⟨_, rfl, ((Only.refl _ _).alloc _).grown hg1 (fun k hk e => ?_), by simpa using hown1⟩
  injection e with e
  exact absurd e (Nat.ne_of_gt hk)

def hasI (xs : List Int) (t : Int) : Bool := decide (t ∈ xs)
/-- sporef.Has. -/
theorem has_any (v : Value) (xs : List Int) (t : Int) (w : World) (h : SlI w w.heap.size v xs) :
    Calls Try.prog 21 #[v, .int .i64 t] w fun e w' => e = .returned (.bool (hasI xs t)) ∧ w = w' := by
  obtain ⟨A, c, rfl, h1, h2, h3, h4⟩ := id h
  unfold maxLen at h2
  have H4 := Lib.hid h4
  clear h h3 h4
  go_enter Try.func21, Try.ntmps21
  go_wp2_with fail
  go_loop [5] (fun i => ∃ k : Nat, k ≤ xs.length ∧ i = .int .i64 k ∧ Hid (t ∉ xs.take k)) (fun i => xs.length - (intOf i).toNat)
  case atStart => exact ⟨0, Nat.zero_le _, by first | rfl | simp, Lib.hid (by simp)⟩
  case round =>
    obtain ⟨k, hk, rfl, HT⟩ := hrel
    by_cases hlt : k < xs.length
    · obtain ⟨g, off, hA, _, hc⟩ := H4.out (by omega)
      subst hA
      have c1 := hc k hlt
      have HX := Lib.hid (show xs[k]? = some (xs.getD k 0) from by simp [List.getD, hlt])
      generalize xs.getD k 0 = x at *
      clear hc
      by_cases he : x = t
      · subst he
        have HY := Lib.hid (show hasI xs x = true from decide_eq_true (List.mem_of_getElem? HX.out))
        go_wp2_with fail
        go_ret
        exact ⟨ret_b HY.out, rfl⟩
      · have he' : (x == t) = false := beq_eq_false_iff_ne.2 he
        have HN := Lib.hid he
        clear he
        go_wp2_with fail
        go_round
        case rel => exact ⟨k + 1, hlt, by first | rfl | simp, Lib.hid (by
          rw [List.take_add_one, HX.out]
          intro h
          rcases List.mem_append.1 h with h | h
          · exact HT.out h
          · simp at h
            exact HN.out h.symm)⟩
        case measure => simp [intOf]; omega
    · obtain rfl : k = xs.length := by omega
      have HY := Lib.hid (show hasI xs t = false from decide_eq_false (by have := HT.out; rwa [List.take_length] at this))
      go_wp2_with fail
      go_ret
      exact ⟨ret_b HY.out, rfl⟩

end Go.Proofs.Ytmpomkejmokdlaa
