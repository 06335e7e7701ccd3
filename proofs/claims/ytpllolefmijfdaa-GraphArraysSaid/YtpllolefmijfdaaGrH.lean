/-
  The contract of the helper first: what the chapter's examples fix holds.
-/
import Derived.Test.YtpllolefmijfdaaGrG
namespace Go.Proofs.Ytpllolefmijfdaa
open Go.RowKit

/-- The graph that has been made since the world w0 stands at st; F: blocks that are not the graph's. -/
structure Gx (w0 : World) (F : Nat → Prop) (G : Nat) (st : GS) (w : World) : Prop where
  st : ∃ (κ : Nat → Option Cl) (y : Ly), GRL w κ G st y ∧ (∀ k, κ k ≠ none → w0.heap.size ≤ k) ∧ ∀ k, F k → κ k = none ∧ k < w.heap.size
  pu : Pure w0 w
def KeepF (F : Nat → Prop) (w w' : World) : Prop := ∀ (b : Nat) (o : Obj), F b → w.heap[b]? = some o → w'.heap[b]? = some o
section
variable {w0 w w' : World} {F F' : Nat → Prop} {G : Nat} {st st' : GS}
theorem Gx.mono (h : Gx w0 F G st w) (hF : ∀ k, F' k → F k) : Gx w0 F' G st w := by
  obtain ⟨⟨κ, y, h1, h2, h3⟩, h4⟩ := h
  exact ⟨⟨κ, y, h1, h2, fun k hk => h3 k (hF k hk)⟩, h4⟩
theorem Gx.keep (h : Gx w0 F G st w) (k : Pure w w') : Gx w0 F G st w' := by
  obtain ⟨⟨κ, y, h1, h2, h3⟩, h4⟩ := h
  exact ⟨⟨κ, y, h1.pure k, h2, fun q hq => ⟨(h3 q hq).1, Nat.lt_of_lt_of_le (h3 q hq).2 k.size⟩⟩, h4.then k⟩
theorem Gx.alloc (h : Gx w0 F G st w) (o : Obj) : Gx w0 (fun k => F k ∨ k = w.heap.size) G st (w.alloc o) := by
  obtain ⟨⟨κ, y, h1, h2, h3⟩, h4⟩ := h
  have hp := (Only.refl (fun _ => False) w).alloc o
  refine ⟨⟨κ, y, h1.pure hp, h2, fun q hq => ?_⟩, Pure.then h4 hp⟩
  rcases hq with hq | rfl
  · exact ⟨(h3 q hq).1, Nat.lt_of_lt_of_le (h3 q hq).2 hp.size⟩
  · exact ⟨Classical.byContradiction fun hn => by have := h1.dom _ hn; omega, by simp⟩
theorem Gx.new {κ : Nat → Option Cl} (h : GR w κ G st) (hp : Pure w0 w) (hk : ∀ k, κ k ≠ none → w0.heap.size ≤ k) : Gx w0 (fun _ => False) G st w := by
  obtain ⟨y, h⟩ := h
  exact ⟨⟨κ, y, h, hk, fun _ f => f.elim⟩, hp⟩
/-- A cell of a block that is not the graph's is written. -/
theorem Gx.only (h : Gx w0 F G st w) {S : Nat → Prop} (ho : Only S w w') (hS : ∀ k, S k → F k ∧ w0.heap.size ≤ k) : Gx w0 F G st w' := by
  obtain ⟨⟨κ, y, h1, h2, h3⟩, h4⟩ := h
  refine ⟨⟨κ, y, h1.only ho (fun k hk e => hk (h3 k (hS k e).1).1), h2, fun q hq => ⟨(h3 q hq).1, Nat.lt_of_lt_of_le (h3 q hq).2 ho.size⟩⟩, h4.trans ho (fun k hk e => by have := (hS k e).2; omega)⟩
theorem Gx.upd {κ : Nat → Option Cl} {lb : Nat} (h2 : ∀ k, κ k ≠ none → w0.heap.size ≤ k) (h3 : ∀ k, F k → κ k = none ∧ k < w.heap.size) (_hd : ∀ k, κ k ≠ none → k < w.heap.size) (h4 : Pure w0 w) (hg : GNew w κ G st' lb w') : Gx w0 F G st' w' ∧ KeepF F w w' := by
  obtain ⟨κ', y', g1, -, g3, g4⟩ := hg
  have hs := h4.size
  refine ⟨⟨⟨κ', y', g1, fun k hk => ?_, fun k hk => ⟨(g4 k (h3 k hk).2).trans (h3 k hk).1, Nat.lt_of_lt_of_le (h3 k hk).2 g3.size⟩⟩, h4.trans g3 (fun k hk e => by have := h2 k e; omega)⟩, fun b o hb ho => g3.blk ho (fun e => e (h3 b hb).1)⟩
  by_cases hlt : k < w.heap.size
  · rw [g4 k hlt] at hk; exact h2 k hk
  · omega
theorem Gx.stp {o : Op20} {v : Vl} {er : Int} (h : Gx w0 F G st w) (hs : Stp st o v er st') :
    Calls Try.prog 19 #[.pointer (some ⟨G, 0, none⟩), .int .i64 0, opV o, .bool false] w fun e w' => e = .returned (.tuple #[vlV v, .int .i64 er]) ∧ Gx w0 F G st' w' ∧ KeepF F w w' := by
  obtain ⟨⟨κ, y, h1, h2, h3⟩, h4⟩ := h
  exact (hs w κ G y h1).mono fun e w' ⟨a, b⟩ => ⟨a, Gx.upd h2 h3 h1.dom h4 b⟩
theorem Gx.run {b : Nat} {ops : List Op20} {v : Vl} {er : Int} (h : Gx w0 F G st w) (hb : w.heap[b]? = some (.cells (ocs ops).toArray 38 (0, 0))) (hF : F b) (hr : Runs st zeroVl 0 ops v er st') (hlen : ops.length ≤ 1000) :
    Calls Try.prog 10 #[.pointer (some ⟨G, 0, none⟩), .slice (some ⟨b, 0, none⟩) ops.length ops.length] w fun e w' => e = .returned (.tuple #[vlV v, .int .i64 er]) ∧ Gx w0 F G st' w' ∧ KeepF F w w' := by
  obtain ⟨⟨κ, y, h1, h2, h3⟩, h4⟩ := h
  exact (one_any h1 ops b hb (h3 b hF).1 v er st' hr hlen).mono fun e w' ⟨a, b⟩ => ⟨a, Gx.upd h2 h3 h1.dom h4 b⟩
theorem Gx.join (h : Gx w0 F G st w) (hl : st.loc = none) (ht : 0 < st.c.threads) (n : Nat) (hn : st.c.locals = n) (hn1 : n ≤ 1000) :
    Calls Try.prog 9 #[.pointer (some ⟨G, 0, none⟩), .int .i64 0] w fun e w' => e = .returned (.bool true) ∧ Gx w0 F G { st with loc := some (List.replicate n zeroVl) } w' ∧ KeepF F w w' := by
  obtain ⟨⟨κ, y, h1, h2, h3⟩, h4⟩ := h
  exact (join_any h1 hl ht n hn hn1).mono fun e w' ⟨a, b⟩ => ⟨a, Gx.upd h2 h3 h1.dom h4 b⟩
theorem Gx.live (h : Gx w0 F G st w) (hw : WellF st) (hgl : st.glo.length ≤ 1000000) (hz : SzOk st) (a b : Int) (ha : sumI (szI st) (reachL st) = a) (hb : sumI (spI st) (reachL st) = b) :
    Calls Try.prog 12 #[.pointer (some ⟨G, 0, none⟩)] w fun e w' => e = .returned (.tuple #[.int .i64 a, .int .i64 b]) ∧ Gx w0 F G st w' ∧ Pure w w' := by
  have h' := h
  obtain ⟨⟨κ, y, h1, h2, h3⟩, h4⟩ := h
  subst ha; subst hb
  exact (live_any h1 hw hgl hz).mono fun e w' ⟨a, b⟩ => ⟨a, h'.keep b, b⟩
theorem Gx.reach (h : Gx w0 F G st w) (hw : WellF st) (hgl : st.glo.length ≤ 1000000) (n : Nat) (hn : (reachL st).length = n) :
    Calls Try.prog 11 #[.pointer (some ⟨G, 0, none⟩)] w fun e w' => ∃ A c, e = .returned (.slice A n c) ∧ Gx w0 F G st w' ∧ Pure w w' := by
  have h' := h
  obtain ⟨⟨κ, y, h1, h2, h3⟩, h4⟩ := h
  subst hn
  exact (reach_any h1 hw hgl).mono fun e w' ⟨v, a, b, c⟩ => by
    obtain ⟨A, d, rfl⟩ := own_form c
    exact ⟨A, d, a, h'.keep b, b⟩
theorem Gx.len (h : Gx w0 F G st w) (n : Nat) (hn : st.th.length = n) : Calls Try.prog 13 #[.pointer (some ⟨G, 0, none⟩)] w fun e w' => e = .returned (.int .i64 n) ∧ w = w' := by
  obtain ⟨⟨κ, y, h1, h2, h3⟩, h4⟩ := h
  subst hn
  exact len_any h1
end

/-! ### The states of first -/
def cF : Cn := ⟨4, 0, 0, 1, 1, 0, 1, 0⟩
def stF (l : Option (List Vl)) (th : List Th) : GS := ⟨cF, [(false, [])], th, l, []⟩
def thF0 : Th := mdTh 0 false 0 [] 0
theorem wellF (l : List Vl) (h : ∀ v ∈ l, v.r = true → OkW 1 (v.x, v.y)) : WellF (stF (some l) [thF0]) where
  glo := fun v hv => by simp [stF] at hv
  loc := fun l' e v hv hr => by
    simp only [stF, Option.some.injEq] at e
    subst e; exact h v hv hr
  fld := fun i t ht k z hz => by
    have : i = 0 := by have := (List.getElem?_eq_some_iff.1 ht).1; simp [stF] at this; omega
    subst this
    simp [stF] at ht
    subst ht
    simp [thF0, mdTh] at hz
  rsl := fun i t ht => by
    have : i = 0 := by have := (List.getElem?_eq_some_iff.1 ht).1; simp [stF] at this; omega
    subst this
    simp [stF] at ht
    subst ht
    simp [thF0, mdTh]
  len := by simp [stF]
theorem szF (l : Option (List Vl)) : SzOk (stF l [thF0]) := by
  have e1 : sizeI false 0 0 = 1 := by decide +kernel
  have e2 : spineI false 0 0 = 0 := by decide +kernel
  constructor <;> intro i <;> cases i with
  | zero => simp [szI, spI, stF, thF0, mdTh, e1, e2]
  | succ i => simp [szI, spI, stF]
theorem liveF1 : sumI (szI (stF (some [refVl 0]) [thF0])) (reachL (stF (some [refVl 0]) [thF0])) = 1 ∧ sumI (spI (stF (some [refVl 0]) [thF0])) (reachL (stF (some [refVl 0]) [thF0])) = 0 := by
  have e1 : sizeI false 0 0 = 1 := by decide +kernel
  have e2 : spineI false 0 0 = 0 := by decide +kernel
  rw [reachL_all (fun i hi => by
    have : i = 0 := by simp [stF] at hi; omega
    subst this
    exact .loc (l := [refVl 0]) rfl (List.mem_singleton.2 rfl) rfl rfl (by simp [stF]))]
  simp [stF, sumI, List.range_succ, szI, spI, thF0, mdTh, e1, e2]
theorem liveF2 : sumI (szI (stF (some [noneVl]) [thF0])) (reachL (stF (some [noneVl]) [thF0])) = 0 ∧ sumI (spI (stF (some [noneVl]) [thF0])) (reachL (stF (some [noneVl]) [thF0])) = 0 := by
  rw [reachL_none (fun i hi hr => by
    have key : ∀ j, Rch (stF (some [noneVl]) [thF0]) j → False := fun j hj => by
      induction hj with
      | glo h1 _ _ => simp [stF] at h1
      | loc h1 h2 h3 h4 h5 =>
        simp only [stF, Option.some.injEq] at h1
        subst h1
        simp at h2
        subst h2
        simp [stF] at h5
        have := oW_some (o := none) (fun _ e => by cases e) (by omega) h4
        cases this
      | fld _ _ _ _ _ ih => exact ih
    exact key i hr)]
  simp [sumI]


def stF1 : GS := stF none []
def stF2 : GS := stF (some [zeroVl]) []
def stF3 : GS := stF (some [refVl 0]) [thF0]
def stF4 : GS := stF (some [noneVl]) [thF0]
theorem okRef {n i : Nat} (h : i < n) : OkW n ((refVl i).x, (refVl i).y) := OkW.ref (n := n) (i := i) h
theorem okNone (n : Nat) : OkW n (noneVl.x, noneVl.y) := OkW.none n
theorem okF3 : ∀ v ∈ [refVl 0], v.r = true → OkW 1 (v.x, v.y) := fun v hv _ => by rw [List.mem_singleton.1 hv]; exact okRef (by omega)
theorem okF4 : ∀ v ∈ [noneVl], v.r = true → OkW 1 (v.x, v.y) := fun v hv _ => by rw [List.mem_singleton.1 hv]; exact okNone 1
theorem stpF1 : Stp stF2 ⟨1, 0, 0, 0, 0, 0, 0⟩ (refVl 0) 0 stF3 :=
  stp_new (st := stF2) (l := [zeroVl]) rfl (by decide) (by decide) 0 0 (by decide) [] rfl (by decide) (by decide +kernel) (by decide +kernel) (by decide) 0 0 0
theorem stpF2 : Stp stF3 ⟨13, 0, 0, 0, 0, 0, 0⟩ noneVl 0 stF4 :=
  stp_clear (st := stF3) (l := [refVl 0]) rfl (by simp [stF3, stF, cF]) 0 (by simp) 0 0 0 0 0

set_option maxRecDepth 100000 in
set_option maxHeartbeats 4000000 in
theorem first_any (w : World) : Calls Try.prog 6 #[] w fun e w' => e = .returned (.bool true) ∧ Pure w w' := by
  have hp2 := ((Only.refl (fun _ => False) w).alloc (.cells #[.bool false, .slice none 0 0] 46)).alloc (.cells #[.int .i64 4, .int .i64 0, .int .i64 0, .int .i64 1, .int .i64 1, .int .i64 0, .int .i64 1, .int .i64 0, .slice (some ⟨w.heap.size, 0, none⟩) 1 1] 25)
  have hsh := Pure.blk ((Only.refl (fun _ => False) _).alloc (.cells #[.int .i64 4, .int .i64 0, .int .i64 0, .int .i64 1, .int .i64 1, .int .i64 0, .int .i64 1, .int .i64 0, .slice (some ⟨w.heap.size, 0, none⟩) 1 1] 25)) (heap_alloc_new w (.cells #[.bool false, .slice none 0 0] 46))
  have P2 := Lib.hid hp2
  have SH := Lib.hid hsh
  clear hp2 hsh
  go_enter Try.func6, Try.ntmps6
  go_wp2_with fail
  generalize (w.alloc (.cells #[.bool false, .slice none 0 0] 46)).alloc (.cells #[.int .i64 4, .int .i64 0, .int .i64 0, .int .i64 1, .int .i64 1, .int .i64 0, .int .i64 1, .int .i64 0, .slice (some ⟨w.heap.size, 0, none⟩) 1 1] 25) = w2 at *
  refine (new_any cF (.slice (some ⟨w.heap.size, 0, none⟩) 1 1) [⟨false, .slice none 0 0, []⟩] w2 ?_ (by decide) 0 rfl (by omega) (by simp) (by simp)).mono ?_
  · refine ⟨⟨_, 1, rfl, by simp, by omega, fun _ => ⟨w.heap.size, 0, rfl, ?_, fun j s hs => ?_⟩⟩, fun s hs => ?_⟩
    · exact (Array.getElem?_eq_some_iff.1 SH.out).1
    · have : j = 0 := by have := (List.getElem?_eq_some_iff.1 hs).1; simp at this; omega
      subst this
      simp at hs
      subst hs
      constructor <;> (rw [cell_of_row _ _ _ _ _ _ SH.out]; rfl)
    · simp at hs
      subst hs
      exact ⟨none, 0, rfl, Nat.le_refl _, by omega, fun h => absurd h (by show ¬ 0 < 0; omega)⟩
  rintro e w3 ⟨G, κ, rfl, hgr, hp3, hk3⟩
  have X3 := Lib.hid (Gx.new hgr hp3 hk3)
  clear hgr hp3 hk3
  go_wp2_with fail
  refine (X3.out.join rfl (by decide) 1 rfl (by omega)).mono ?_
  rintro e w4 ⟨rfl, hx, -⟩
  have X4 := Lib.hid (show Gx w2 (fun _ => False) G stF2 w4 from hx)
  clear hx
  go_wp2_with fail
  refine (X4.out.stp stpF1).mono ?_
  rw [show vlV (refVl 0) = .agg #[.bool true, .complex .f64 (rW 0).1 4607182418800017408] from rfl]
  rintro e w5 ⟨rfl, hx, -⟩
  have X5 := Lib.hid (hx.alloc (.cells #[.bool true, .complex .f64 (rW 0).1 4607182418800017408] 34))
  have HB := Lib.hid (heap_alloc_new w5 (.cells #[.bool true, .complex .f64 (rW 0).1 4607182418800017408] 34))
  clear hx
  go_wp2_with fail
  generalize w5.alloc (.cells #[.bool true, .complex .f64 (rW 0).1 4607182418800017408] 34) = w6 at *
  generalize w5.heap.size = R at *
  refine (X5.out.live (wellF _ okF3) (by simp [stF3, stF]) (szF _) 1 0 liveF1.1 liveF1.2).mono ?_
  rintro e w7 ⟨rfl, hx, hp⟩
  have X7 := Lib.hid hx
  have HB7 := Lib.hid (Pure.blk hp HB.out)
  clear hx hp
  go_wp2_with fail
  refine (X7.out.stp stpF2).mono ?_
  rw [show vlV noneVl = .agg #[.bool true, .complex .f64 0 4607182418800017408] from rfl]
  rintro e w8 ⟨rfl, hx, hk⟩
  have hp := (Only.refl (fun _ => False) w8).alloc (.cells #[.bool true, .complex .f64 0 4607182418800017408] 34)
  have X8 := Lib.hid (hx.keep hp)
  have HB8 := Lib.hid (Pure.blk hp (hk R _ (.inr rfl) HB7.out))
  clear hx hp hk
  go_wp2_with fail
  generalize w8.alloc (.cells #[.bool true, .complex .f64 0 4607182418800017408] 34) = w9 at *
  refine (X8.out.live (wellF _ okF4) (by simp [stF4, stF]) (szF _) 0 0 liveF2.1 liveF2.2).mono ?_
  rintro e w10 ⟨rfl, hx, hp⟩
  have X10 := Lib.hid hx
  obtain ⟨r0, -, -, -⟩ := val2 (Pure.blk hp HB8.out)
  clear hx hp
  go_wp2_with fail
  refine (X10.out.len 1 rfl).mono ?_
  rintro e w11 ⟨rfl, rfl⟩
  go_wp2_with fail
  go_ret
  exact ⟨rfl, Pure.then P2.out X10.out.pu⟩

end Go.Proofs.Ytpllolefmijfdaa
