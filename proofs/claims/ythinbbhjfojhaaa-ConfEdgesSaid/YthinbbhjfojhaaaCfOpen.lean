/-
  A configuration as an argument, opened; Few.
-/
import Derived.Test.YthinbbhjfojhaaaCf1
import Derived.Deep.SlicePairs
namespace Go.Proofs.Ythinbbhjfojhaaa
open Go.RowKit Go.ChangeShapes Go.WideShapes Go.ChangeAt
open Go.Proofs.Ythinbbhjfojhaaa.confSmall (Row Row.new Row.keep Row.cells Row.keepSet first_any)

instance : Inhabited Sh := ⟨⟨false, .slice none 0 0, []⟩⟩

/-- An argument that is a configuration, opened. -/
theorem open_conf {H : Type} {enc : TypeId × Value → H} {W : World} {b0 base : Nat} {v : Value} {d : DataW H} {ps : List MemPlace} {r : Reach}
    (hval : Value.okWide Try.prog W r b0 24 v) (h : DataW.Trod enc Try.prog W base (fun _ => true) true 24 v d ps) : ∃ x : Cn × Value × List Sh, v = cnV x.1 x.2.1 ∧ ShsR W W.heap.size x.2.1 x.2.2 := by
  obtain ⟨cs, rfl, hsz⟩ := okWide_struct Try.underlying24 hval
  have hC : Try.prog.cellsOf 24 = 9 := by kernel_rfl
  have k3 : Try.prog.cellsOf 3 = 1 := by kernel_rfl
  have k8 : Try.prog.cellsOf 22 = 1 := by kernel_rfl
  rw [hC] at hsz
  obtain ⟨fuel, hf⟩ := h
  obtain ⟨xs, n, _, _, _, hxl, hx⟩ := DataW.trod_struct Try.underlying24 hf
  obtain ⟨l⟩ := cs
  match l, hsz, xs, hxl with
  | [c0, c1, c2, c3, c4, c5, c6, c7, c8], _, [y0, y1, y2, y3, y4, y5, y6, y7, y8], _ =>
    have g0 := hx 0 _ rfl
    have g1 := hx 1 _ rfl
    have g2 := hx 2 _ rfl
    have g3 := hx 3 _ rfl
    have g4 := hx 4 _ rfl
    have g5 := hx 5 _ rfl
    have g6 := hx 6 _ rfl
    have g7 := hx 7 _ rfl
    have g8 := hx 8 _ rfl
    simp [Value.cells, k3, k8] at g0 g1 g2 g3 g4 g5 g6 g7 g8
    obtain ⟨a0, e0, _⟩ := DataW.trod_int Try.underlying3 g0
    obtain ⟨a1, e1, _⟩ := DataW.trod_int Try.underlying3 g1
    obtain ⟨a2, e2, _⟩ := DataW.trod_int Try.underlying3 g2
    obtain ⟨a3, e3, _⟩ := DataW.trod_int Try.underlying3 g3
    obtain ⟨a4, e4, _⟩ := DataW.trod_int Try.underlying3 g4
    obtain ⟨a5, e5, _⟩ := DataW.trod_int Try.underlying3 g5
    obtain ⟨a6, e6, _⟩ := DataW.trod_int Try.underlying3 g6
    obtain ⟨a7, e7, _⟩ := DataW.trod_int Try.underlying3 g7
    injection e0 with e0; injection e1 with e1; injection e2 with e2; injection e3 with e3
    injection e4 with e4; injection e5 with e5; injection e6 with e6; injection e7 with e7
    subst e0; subst e1; subst e2; subst e3; subst e4; subst e5; subst e6; subst e7
    suffices hS : ∃ sh, ShsR W W.heap.size c8 sh by
      obtain ⟨sh, hS⟩ := hS
      exact ⟨(⟨a0, a1, a2, a3, a4, a5, a6, a7⟩, c8, sh), rfl, hS⟩
    rcases Go.Deep.open_slice_pairs Try.underlying22 Try.underlying32 (by kernel_rfl) rfl rfl (by kernel_rfl) (by kernel_rfl) g8 with ⟨hcs, _⟩ | ⟨a, len, cap, m, q, V0, V1, D0, D1, P0, P1, hcs, _, hl, hm, hmm, _, hcell⟩
    · injection hcs with hcs
      subst hcs
      exact ⟨[], ⟨none, 0, rfl, Nat.le_refl _, by simp, fun h => by simp at h⟩, fun s hs => by simp at hs⟩
    · injection hcs with hcs
      subst hcs
      have hmc : m = cap := by simpa using hmm
      have each : ∀ i, i < len → ∃ s : Sh, W.cell? (a.add (i * 2)) = some (.bool s.a) ∧ W.cell? (a.add (i * 2 + 1)) = some s.v ∧ SlG W W.heap.size s.v (bools s.bs) := by
        intro i hi
        obtain ⟨h0, h1, h2, h3⟩ := hcell i (by omega)
        obtain ⟨b, hb, _⟩ := DataW.trod_bool Try.underlying4 h2
        injection hb with hb
        obtain ⟨bs, hbs⟩ := open_bools Try.underlying30 Try.underlying4 (by kernel_rfl) h3
        exact ⟨⟨b, V1 i, bs⟩, by rw [h0, hb], h1, hbs⟩
      obtain ⟨f, hf⟩ := Go.Deep.choose_lt each
      refine ⟨(List.range len).map f, ⟨some a, cap, by simp, by simpa using hl, by simpa [maxLen] using hm, fun hp => ?_⟩, fun s hs => ?_⟩
      · have hp' : 0 < len := by simpa using hp
        have h0 := (hf 0 hp').1
        obtain ⟨b, off, spot⟩ := a
        have hspot : spot = none := by simpa [Addr.add] using World.cell?_spot h0
        subst hspot
        refine ⟨b, off, rfl, ?_, fun j s hs => ?_⟩
        · have := World.block_lt_of_cell? W _ h0
          rwa [Go.WideShapes.add_plain] at this
        · have hj : j < len := by
            have := (List.getElem?_eq_some_iff.1 hs).1
            simpa using this
          have hs' : f j = s := by simpa [hj] using hs
          subst hs'
          obtain ⟨h1, h2, _⟩ := hf j hj
          rw [Go.WideShapes.add_plain] at h1 h2
          exact ⟨h1, by simpa [Nat.add_assoc] using h2⟩
      · obtain ⟨i, hi, rfl⟩ := List.mem_map.1 hs
        exact (hf i (List.mem_range.1 hi)).2.2

theorem few_any (c : Cn) (v : Value) (l : List Sh) (w : World) (hl : ShsR w w.heap.size v l) :
    Calls Try.prog 9 #[cnV c v] w fun e w' => (∃ b : Bool, e = .returned (.bool b)) ∧ Pure w w' := by
  obtain ⟨⟨A, cc, rfl, h1, h2, h3⟩, h4⟩ := hl
  have H3 := Lib.hid h3
  have H4 := Lib.hid h4
  clear h3 h4
  go_enter Try.func9, Try.ntmps9
  go_wp2_with fail
  have hr := Row.new w c (.slice A l.length cc)
  have hX : w.heap.size ≤ w.heap.size := Nat.le_refl _
  generalize w.alloc _ = W at hr ⊢
  obtain ⟨c0, c1, c2, c3, c4, c5, c6, c7, c8, _⟩ := hr.cells
  clear c0 c1 c2 c3 c4 c5 c6 c7
  have R := Lib.hid hr
  clear hr hX
  go_loopw [3] (fun i wr => ∃ k : Nat, k ≤ l.length ∧ k ≤ 100 ∧ i = .int .i64 k ∧ wr = W) (fun i _ => 100 - (intOf i).toNat)
  case atStart => exact ⟨0, Nat.zero_le _, by omega, by first | rfl | simp, rfl⟩
  case round =>
    obtain ⟨k, hk, hk', rfl, rfl⟩ := hrel
    by_cases hlt : k < l.length
    · by_cases hlt' : k < 100
      · obtain ⟨b, off, hA, hb, hc⟩ := H3.out (by omega)
        subst hA
        obtain ⟨s, hs⟩ : ∃ s, l[k]? = some s := ⟨l[k], List.getElem?_eq_getElem hlt⟩
        obtain ⟨d1, d2⟩ := hc k s hs
        obtain ⟨B, d, hv, hd1, hd2, _⟩ := H4.out s (List.mem_of_getElem? hs)
        rw [hv] at d2
        rw [bools_length] at d2 hd1
        have d2' := R.out.2.2.keep d2
        clear hc d1 d2 hv hs
        by_cases hbig : s.bs.length ≤ 1000
        · go_wp2
          go_roundw
          case rel => exact ⟨k + 1, by omega, by omega, by first | rfl | simp, by first | trivial | rfl⟩
          case measure => simp [intOf]; omega
        · go_wp2
          go_ret
          exact ⟨⟨_, rfl⟩, R.out.2.2⟩
      · go_wp2
        go_ret
        exact ⟨⟨_, rfl⟩, R.out.2.2⟩
    · obtain rfl : k = l.length := by omega
      go_wp2
      go_ret
      exact ⟨⟨_, rfl⟩, R.out.2.2⟩

end Go.Proofs.Ythinbbhjfojhaaa
