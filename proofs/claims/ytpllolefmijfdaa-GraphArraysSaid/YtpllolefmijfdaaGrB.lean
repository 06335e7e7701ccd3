/-
  The contract of Reach's closure grey.
-/
import Derived.Test.YtpllolefmijfdaaGrC
import Derived.Test.YtpllolefmijfdaaGr9
namespace Go.Proofs.Ytpllolefmijfdaa
open Go.RowKit
open Go.ChangeMaps (setBlock)

/-- While Reach works: the map of what is met in block M, pointed to from P3; the work in P4; what is new begins at B. -/
structure RcR (w0 : World) (κ : Nat → Option Cl) (G : Nat) (st : GS) (y : Ly) (P3 P4 M B : Nat) (ks wk : List Nat) (w : World) : Prop where
  gr : GRL w κ G st y
  pu : Pure w0 w
  b3 : w.heap[P3]? = some (.cells #[.map (some M)] 63 (0, 0))
  wkv : ∃ v, w.heap[P4]? = some (.cells #[v] 39 (0, 0)) ∧ w.ownsRow B 3 1 v wk.length (nis wk)
  met : MetR w M ks
  lo : w0.heap.size ≤ P3 ∧ w0.heap.size ≤ P4 ∧ w0.heap.size ≤ M ∧ P3 < B ∧ P4 < B ∧ M < B ∧ P3 ≠ P4 ∧ P3 ≠ M ∧ P4 ≠ M
  bs : B ≤ w.heap.size
  kz : ∀ k, κ k ≠ none → k < w0.heap.size
section
variable {w0 w w' : World} {κ : Nat → Option Cl} {G : Nat} {st : GS} {y : Ly} {P3 P4 M B : Nat} {ks wk : List Nat}
theorem RcR.keep (h : RcR w0 κ G st y P3 P4 M B ks wk w) (k : Pure w w') : RcR w0 κ G st y P3 P4 M B ks wk w' := by
  obtain ⟨v, h1, h2⟩ := h.wkv
  exact ⟨h.gr.pure k, h.pu.then k, k.blk h.b3, ⟨v, k.blk h1, k.own h2 (fun _ _ f => f)⟩, h.met.only k (fun f => f), h.lo, Nat.le_trans h.bs k.size, h.kz⟩
theorem RcR.cells (h : RcR w0 κ G st y P3 P4 M B ks wk w) : w.cell? ⟨P3, 0, none⟩ = some (.map (some M)) ∧ ∃ A c, w.cell? ⟨P4, 0, none⟩ = some (.slice A wk.length c) ∧ w.heap[P4]? = some (.cells #[.slice A wk.length c] 39 (0, 0)) ∧ w.ownsRow B 3 1 (.slice A wk.length c) wk.length (nis wk) := by
  obtain ⟨v, h1, h2⟩ := h.wkv
  obtain ⟨A, c, rfl⟩ := own_form h2
  exact ⟨by rw [cell_of_row _ _ _ _ _ _ h.b3]; rfl, A, c, by rw [cell_of_row _ _ _ _ _ _ h1]; rfl, h1, h2⟩
/-- What the new blocks hold is written anew. -/
theorem RcR.to {ks' wk' : List Nat} {v : Value} (h : RcR w0 κ G st y P3 P4 M B ks wk w) (ho : Only (fun k => k = M ∨ k = P4 ∨ B ≤ k) w w') (hm : MetR w' M ks') (hb : w'.heap[P4]? = some (.cells #[v] 39 (0, 0))) (hv : w'.ownsRow B 3 1 v wk'.length (nis wk')) :
    RcR w0 κ G st y P3 P4 M B ks' wk' w' := by
  obtain ⟨l1, l2, l3, l4, l5, l6, l7, l8, l9⟩ := h.lo
  refine ⟨h.gr.only ho (fun k hk e => by have := h.kz k hk; omega), h.pu.trans ho (fun k hk e => by omega), ho.blk h.b3 (by omega), ⟨v, hb, hv⟩, hm, h.lo, Nat.le_trans h.bs ho.size, h.kz⟩
end

theorem int_info : (Try.prog.info? 3).map (fun i => (i.zero, i.size, i.bytes)) = some (some (.int .i64 0), 1, 8) := by kernel_rfl

/-- Ranges over maps stay where they are. -/
def ItK (w w' : World) : Prop := ∀ (r : Nat) a b c d, w.heap[r]? = some (.mapIter a b c d) → w'.heap[r]? = some (.mapIter a b c d)
theorem ItK.refl (w : World) : ItK w w := fun _ _ _ _ _ h => h

set_option maxRecDepth 100000 in
set_option maxHeartbeats 4000000 in
theorem grey_any {w0 w : World} {κ : Nat → Option Cl} {G : Nat} {st : GS} {y : Ly} {P3 P4 M B : Nat} {ks wk : List Nat} (h : RcR w0 κ G st y P3 P4 M B ks wk w) (o : Option Nat) (ho : ∀ i, o = some i → i ≤ 1000000) (hw : wk.length ≤ 1000000) :
    Calls Try.prog 23 #[.complex .f64 (oW o).1 (oW o).2, .pointer (some ⟨P3, 0, none⟩), .pointer (some ⟨P4, 0, none⟩)] w fun e w' => e = .returned (.tuple #[]) ∧ RcR w0 κ G st y P3 P4 M B (addK o ks) (addW o ks wk) w' ∧ ItK w w' := by
  rcases o with _ | i
  · have H := Lib.hid h
    clear h
    go_enter Try.func23, Try.ntmps23
    go_wp2_with fail
    refine (index_none _).mono ?_
    rintro e w1 ⟨rfl, rfl⟩
    go_wp2_with fail
    go_end0
    exact ⟨rfl, H.out, ItK.refl _⟩
  · have hi := ho i rfl
    obtain ⟨c3, A4, n4, c4, b4, own4⟩ := h.cells
    have hlk := met_look h.met hi
    have H := Lib.hid h
    by_cases hin : i ∈ ks
    · rw [decide_eq_true hin] at hlk
      have HIN := Lib.hid hin
      clear hin b4 own4 h c4
      go_enter Try.func23, Try.ntmps23
      go_wp2_with fail
      refine (index_ref i _ hi).mono ?_
      rintro e w1 ⟨rfl, rfl⟩
      go_wp2_with fail
      go_end0
      exact ⟨rfl, by rw [addK, addW, if_pos HIN.out, if_pos HIN.out]; exact H.out, ItK.refl _⟩
    · rw [decide_eq_false hin] at hlk
      obtain ⟨es, clock, hpt, hmt⟩ := met_put h.met hi hin
      obtain ⟨l1, l2, l3, l4, l5, l6, l7, l8, l9⟩ := h.lo
      have hsb := setBlock_only w M (.map es clock)
      have d4 : (setBlock w M (.map es clock)).cell? ⟨P4, 0, none⟩ = some (.slice A4 wk.length n4) := by rw [cell_of_row _ _ _ _ _ _ (hsb.blk b4 l9)]; rfl
      have ownS : (setBlock w M (.map es clock)).ownsRow B 3 1 (.slice A4 wk.length n4) wk.length (nis wk) := hsb.own own4 (fun k hk e => by have := (own4.lt k hk).1; omega)
      have OWN := Lib.hid (World.ownsRow.alloc ownS (.cells #[.int .i64 (i : Int)] 3))
      have HBS := Lib.hid h.bs
      have HIN := Lib.hid hin
      have HB4 := Lib.hid (hsb.blk b4 l9)
      have HSB := Lib.hid hsb
      have HMT := Lib.hid hmt
      have OW4 := Lib.hid own4
      have HNI : Hid (∀ (r : Nat) a b c d, w.heap[r]? = some (.mapIter a b c d) → r ≠ M ∧ r ≠ P4 ∧ (Value.slice A4 wk.length n4).ownBlock ≠ some r) := Lib.hid (fun r a b c d hr => by
        refine ⟨fun e => ?_, fun e => ?_, fun e => ?_⟩
        · obtain ⟨es', cl', hb', -⟩ := h.met
          rw [e, hb'] at hr; cases hr
        · rw [e, b4] at hr; cases hr
        · rcases own4.2 with ⟨h0, -⟩ | ⟨g', cap', cur, hv, -, hh, -⟩
          · injection h0 with h0; subst h0; simp [Value.ownBlock] at e
          · injection hv with hv; subst hv
            simp [Value.ownBlock] at e
            rw [← e, hh] at hr; cases hr)
      have L9 := Lib.hid l9
      have L5 := Lib.hid l5
      have L6 := Lib.hid l6
      obtain ⟨i0, hi0, hz0, hz1, hz2⟩ := info_parts int_info
      clear hin b4 own4 h c4 hmt hsb ownS l1 l2 l3 l4 l5 l6 l7 l8 l9
      go_enter Try.func23, Try.ntmps23
      go_wp2_with fail
      refine (index_ref i _ hi).mono ?_
      rintro e w1 ⟨rfl, rfl⟩
      go_wp2_with (at_builtin; refine wpList_app _ rfl (.tmp 20) (.tmp 22) _ rfl B 3 i0 _ 1 8 Try.underlying39 hi0 hz0 hz1 hz2 rfl (by omega) (.slice A4 wk.length n4) wk.length _ rfl OWN.out _ 1 1 [.int .i64 (i : Int)] rfl (Src.row (setBlock w M (.map es clock)) _ #[.int .i64 (i : Int)] 1 1 _ rfl rfl) (by simp [Value.oneCell']) (by simp only [maxLen]; omega) (by omega) (by have := HBS.out; have := HSB.out.size; simp at this ⊢; omega) ?_; intro v2 w2 hown2 hg2 hat2; obtain ⟨A2, n2, rfl⟩ := own_form hown2; have hO2 : Only (fun k => (Value.slice A4 wk.length n4).ownBlock = some k) (setBlock w M (.map es clock)) w2 := ((Only.refl _ _).alloc _).grown hg2 (fun _ _ e => e); have hb2 := hO2.blk HB4.out (fun e => by have h1 := (OW4.out.lt _ e).1; have h2 := L5.out; omega); have s2 : w2.cell? ⟨P4, 0, none⟩ = some (.slice A4 wk.length n4) := (by rw [cell_of_row _ _ _ _ _ _ hb2]; rfl); have f2 := frozen_of_row w2 P4 0 _ _ hb2; have HO2 := Lib.hid hO2; have HB2 := Lib.hid hb2; have OWN2 := Lib.hid hown2; clear hown2 hg2 hat2 hO2 hb2)
      go_end0
      have ho3 : Only (fun k => k = P4) w2 (w2.setCell ⟨P4, 0, none⟩ (.slice A2 (wk.length + 1) n2)) := (Only.refl (fun k => k = P4) w2).setCell (p := ⟨P4, 0, none⟩) (fun _ => rfl) _
      have hit : ItK w (w2.setCell ⟨P4, 0, none⟩ (.slice A2 (wk.length + 1) n2)) := fun r a b c d hr => by
        obtain ⟨n1, n2, n3⟩ := HNI.out r a b c d hr
        exact ho3.blk (HO2.out.blk (HSB.out.blk hr n1) n3) n2
      refine ⟨rfl, ?_, hit⟩
      rw [addK, addW, if_neg HIN.out, if_neg HIN.out]
      refine H.out.to (v := .slice A2 (wk.length + 1) n2) (((HSB.out.mono (fun k _ e => .inl e)).trans HO2.out (fun k _ e => .inr (.inr (OW4.out.lt k e).1))).trans ho3 (fun k _ e => .inr (.inl e))) ?_ ?_ ?_
      · exact (HMT.out.only HO2.out (fun e => by have h1 := (OW4.out.lt _ e).1; have h2 := L6.out; omega)).only ho3 (fun e => L9.out e.symm)
      · have := HB2.out
        simp [World.setCell, Array.getElem?_modify, this]
      · have := ho3.own OWN2.out (fun k hk e => by have h1 := (OWN2.out.lt k hk).1; have h2 := L5.out; omega)
        simpa [nis, ints] using this

end Go.Proofs.Ytpllolefmijfdaa
