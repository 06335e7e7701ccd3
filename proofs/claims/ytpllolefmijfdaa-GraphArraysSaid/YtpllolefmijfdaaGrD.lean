/-
  The contract of (*Graph).Reach: the identities that are reached, rising.
-/
import Derived.Test.YtpllolefmijfdaaGrB
import Derived.Deep.LoopGhost
import Derived.WalkSmall
namespace Go.Proofs.Ytpllolefmijfdaa
open Go.RowKit
open Go.ChangeMaps (setBlock)

section
variable {w : World} {κ : Nat → Option Cl} {G : Nat} {st : GS} {y : Ly}
theorem GRL.gl (h : GRL w κ G st y) {j : Nat} {v : Vl} (hj : st.glo[j]? = some v) : ∃ b, y.E = some ⟨b, 0, none⟩ ∧ w.cell? ⟨b, j * 2, none⟩ = some (.bool v.r) ∧ w.cell? ⟨b, j * 2 + 1, none⟩ = some (.complex .f64 v.x v.y) := by
  have hlt := (List.getElem?_eq_some_iff.1 hj).1
  obtain ⟨g, cap, e, _⟩ := h.glo.form (by omega)
  injection e with e1 e2 e3
  have hr := h.glo
  rw [e1] at hr
  have := vcs_get st.glo j v hj
  exact ⟨g, e1, by rw [hr.cellAt _ (by omega)]; exact this.1, by rw [hr.cellAt _ (by omega)]; exact this.2⟩
theorem GRL.gloLe (h : GRL w κ G st y) : st.glo.length ≤ maxLen := by
  rcases Nat.eq_zero_or_pos st.glo.length with h0 | h0
  · simp [h0]
  · obtain ⟨g, cap, e, _⟩ := h.glo.form h0
    injection e with e1 e2 e3
    have hr := h.glo
    rw [e1] at hr
    have := own_cap hr
    omega
end

theorem new2 (w : World) (u : Vl) : (w.alloc (.cells #[.bool u.r, .complex .f64 u.x u.y] 34)).cell? ⟨w.heap.size, 0, none⟩ = some (.bool u.r) ∧ (w.alloc (.cells #[.bool u.r, .complex .f64 u.x u.y] 34)).cell? ⟨w.heap.size, 1, none⟩ = some (.complex .f64 u.x u.y) := ⟨(val_new w u).1, (val_new w u).2.1⟩

/-- Covered so far. -/
def CovT (ks : List Nat) (l : List Vl) (k : Nat) : Prop := ∀ v ∈ l.take k, Cov ks (v.x, v.y)
def CovR (ks : List Nat) (l : List Vl) (k : Nat) : Prop := ∀ v ∈ l.take k, v.r = true → Cov ks (v.x, v.y)
theorem take_succ_mem {α : Type} {l : List α} {k : Nat} {u v : α} (hu : l[k]? = some u) (h : v ∈ l.take (k + 1)) : v ∈ l.take k ∨ v = u := by
  rw [List.take_add_one, hu] at h
  rcases List.mem_append.1 h with h | h
  · exact .inl h
  · simp at h; exact .inr h
theorem CovT.step {ks : List Nat} {l : List Vl} {k : Nat} {u : Vl} {o : Option Nat} (h : CovT ks l k) (hu : l[k]? = some u) (ho : (u.x, u.y) = oW o) : CovT (addK o ks) l (k + 1) := fun v hv => by
  rcases take_succ_mem hu hv with hv | rfl
  · exact (h v hv).mono fun _ => mem_addK
  · rw [ho]; exact cov_add o ks
theorem CovR.step {ks : List Nat} {l : List Vl} {k : Nat} {u : Vl} {o : Option Nat} (h : CovR ks l k) (hu : l[k]? = some u) (ho : (u.x, u.y) = oW o) : CovR (addK o ks) l (k + 1) := fun v hv hr => by
  rcases take_succ_mem hu hv with hv | rfl
  · exact (h v hv hr).mono fun _ => mem_addK
  · rw [ho]; exact cov_add o ks
theorem CovR.skip {ks : List Nat} {l : List Vl} {k : Nat} {u : Vl} (h : CovR ks l k) (hu : l[k]? = some u) (hr : u.r = false) : CovR ks l (k + 1) := fun v hv hv' => by
  rcases take_succ_mem hu hv with hv | rfl
  · exact h v hv hv'
  · rw [hr] at hv'; cases hv'
theorem CovT.add {ks : List Nat} {l : List Vl} {k : Nat} (o : Option Nat) (h : CovT ks l k) : CovT (addK o ks) l k := fun v hv => (h v hv).mono fun _ => mem_addK
theorem CovR.add {ks : List Nat} {l : List Vl} {k : Nat} (o : Option Nat) (h : CovR ks l k) : CovR (addK o ks) l k := fun v hv hr => (h v hv hr).mono fun _ => mem_addK

/-- What holds while Reach works. -/
structure RcA (w0 : World) (κ : Nat → Option Cl) (G : Nat) (st : GS) (y : Ly) (P3 P4 : Nat) (P : Nat → Prop) (ks wk : List Nat) (w : World) : Prop where
  rc : RcR w0 κ G st y P3 P4 w0.heap.size (w0.heap.size + 3) ks wk w
  bas : Bas st P ks wk
theorem own_not_iter {w : World} {B : Nat} {e : TypeId} {n r : Nat} {v : Value} {xs : List Value} {a : Option Nat} {b : Nat} {c : Array Nat} {d : Nat} (h : w.ownsRow B e 1 v n xs) (hr : w.heap[r]? = some (.mapIter a b c d)) : v.ownBlock ≠ some r := fun e => by
  rcases h.2 with ⟨h0, -⟩ | ⟨g', cap', cur, hv, -, hh, -⟩
  · subst h0; simp [Value.ownBlock] at e
  · subst hv
    simp [Value.ownBlock] at e
    rw [← e, hh] at hr; cases hr
section
variable {w0 w w' : World} {κ : Nat → Option Cl} {G P3 P4 : Nat} {st : GS} {y : Ly} {P : Nat → Prop} {ks wk : List Nat}
theorem RcA.keep (h : RcA w0 κ G st y P3 P4 P ks wk w) (k : Pure w w') : RcA w0 κ G st y P3 P4 P ks wk w' := ⟨h.rc.keep k, h.bas⟩
theorem RcA.start (h : GRL w κ G st y) : RcA w κ G st y (w.heap.size + 1) (w.heap.size + 1 + 1) (fun _ => False) [] [] (((w.alloc (.map #[] 0)).alloc (.cells #[.map (some w.heap.size)] 63)).alloc (.cells #[.slice none 0 0] 39)) := by
  refine ⟨?_, Bas.start st⟩
  have h1 := (Only.refl (fun _ => False) w).alloc (.map #[] 0)
  have h2 := h1.alloc (.cells #[.map (some w.heap.size)] 63)
  have h3 := h2.alloc (.cells #[.slice none 0 0] 39)
  have s1 : (w.alloc (.map #[] 0)).heap.size = w.heap.size + 1 := by simp
  have s2 : ((w.alloc (.map #[] 0)).alloc (.cells #[.map (some w.heap.size)] 63)).heap.size = w.heap.size + 1 + 1 := by simp
  have a2 := Pure.blk ((Only.refl (fun _ => False) _).alloc (.cells #[.slice none 0 0] 39)) (heap_alloc_new (w.alloc (.map #[] 0)) (.cells #[.map (some w.heap.size)] 63))
  have a3 := heap_alloc_new ((w.alloc (.map #[] 0)).alloc (.cells #[.map (some w.heap.size)] 63)) (.cells #[.slice none 0 0] 39)
  rw [s1] at a2
  rw [s2] at a3
  exact ⟨h.pure h3, h3, a2, ⟨_, a3, World.ownsRow_nil _ _ _ _⟩, (met_new w).only (((Only.refl (fun _ => False) _).alloc _).alloc _) (fun f => f), by omega, by simp, h.dom⟩
theorem RcA.wkLe (h : RcA w0 κ G st y P3 P4 P ks wk w) (hw : WellF st) : wk.length ≤ 100000 := by
  have := h.bas.lt
  have := h.bas.le
  have := hw.len
  omega
/-- grey. -/
theorem RcA.grey (h : RcA w0 κ G st y P3 P4 P ks wk w) (hw : WellF st) (o : Option Nat) (ho : ∀ i, o = some i → Rch st i) :
    Calls Try.prog 23 #[.complex .f64 (oW o).1 (oW o).2, .pointer (some ⟨P3, 0, none⟩), .pointer (some ⟨P4, 0, none⟩)] w fun e w' => e = .returned (.tuple #[]) ∧ RcA w0 κ G st y P3 P4 P (addK o ks) (addW o ks wk) w' ∧ ItK w w' ∧ (addK o ks).length - (addW o ks wk).length = ks.length - wk.length := by
  have h1 := h.wkLe hw
  have h2 := hw.len
  have h3 := h.bas.grey o ho
  exact (grey_any h.rc o (fun i e => by have := (ho i e).lt; omega) (by omega)).mono fun e w' ⟨a, b, c⟩ => ⟨a, ⟨b, h3.1⟩, c, h3.2⟩
/-- The range over the map goes on. -/
theorem RcA.iter (h : RcA w0 κ G st y P3 P4 P ks wk w) {r : Nat} {a : Option Nat} {b : Nat} {c : Array Nat} {d : Nat} (hr : w.heap[r]? = some (.mapIter a b c d)) (hr0 : w0.heap.size + 3 ≤ r) (o : Obj) : RcA w0 κ G st y P3 P4 P ks wk (setBlock w r o) := by
  have hs := setBlock_only w r o
  obtain ⟨l1, l2, l3, l4, l5, l6, l7, l8, l9⟩ := h.rc.lo
  obtain ⟨v, h1, h2⟩ := h.rc.wkv
  exact ⟨h.rc.to (v := v) (hs.mono fun k _ e => by subst e; exact .inr (.inr hr0)) (h.rc.met.only hs (by omega)) (hs.blk h1 (by omega)) (hs.own h2 fun k hk e => by subst e; exact own_not_iter h2 hr hk), h.bas⟩
/-- The last of the work is taken. -/
theorem RcA.pop {x g c : Nat} (h : RcA w0 κ G st y P3 P4 (fun _ => False) ks (wk ++ [x]) w) (ho : w.ownsRow (w0.heap.size + 3) 3 1 (.slice (some ⟨g, 0, none⟩) (wk ++ [x]).length c) (wk ++ [x]).length (nis (wk ++ [x]))) :
    RcA w0 κ G st y P3 P4 (fun i => i = x) ks wk (w.setCell ⟨P4, 0, none⟩ (.slice (some ⟨g, 0, none⟩) wk.length c)) := by
  have hs : Only (fun k => k = P4) w (w.setCell ⟨P4, 0, none⟩ (.slice (some ⟨g, 0, none⟩) wk.length c)) := (Only.refl (fun k => k = P4) w).setCell (p := ⟨P4, 0, none⟩) (fun _ => rfl) _
  obtain ⟨l1, l2, l3, l4, l5, l6, l7, l8, l9⟩ := h.rc.lo
  obtain ⟨v, h1, -⟩ := h.rc.wkv
  have hp : w.ownsRow (w0.heap.size + 3) 3 1 (.slice (some ⟨g, 0, none⟩) wk.length c) wk.length (nis wk) := by
    refine ownsRow_pop (last := nis [x]) (by simp [ints_length]) ?_
    simpa [ints] using ho
  refine ⟨h.rc.to (v := .slice (some ⟨g, 0, none⟩) wk.length c) (hs.mono fun k _ e => .inr (.inl e)) (h.rc.met.only hs (by omega)) ?_ (hs.own hp fun k hk e => by have := (hp.lt k hk).1; omega), h.bas.pop⟩
  simp [World.setCell, Array.getElem?_modify, h1]
end

/-- The fields that have been looked at. -/
def CovF (ks : List Nat) (t : Th) (k : Nat) : Prop := ∀ j, j < k → refB t j = some true → ∀ z, t.l[j]? = some z → Cov ks z
theorem CovF.step {ks : List Nat} {t : Th} {k : Nat} {z : Nat × Nat} {o : Option Nat} (h : CovF ks t k) (hz : t.l[k]? = some z) (ho : z = oW o) : CovF (addK o ks) t (k + 1) := fun j hj hr z' hz' => by
  by_cases hjk : j < k
  · exact (h j hjk hr z' hz').mono fun _ => mem_addK
  · obtain rfl : j = k := by omega
    rw [hz] at hz'; injection hz' with e
    subst e; rw [ho]; exact cov_add o ks
theorem CovF.skip {ks : List Nat} {t : Th} {k : Nat} (h : CovF ks t k) (hr : refB t k = some false) : CovF ks t (k + 1) := fun j hj hr' z' hz' => by
  by_cases hjk : j < k
  · exact h j hjk hr' z' hz'
  · obtain rfl : j = k := by omega
    rw [hr] at hr'; cases hr'
theorem RcA.done {w0 w : World} {κ : Nat → Option Cl} {G P3 P4 x : Nat} {st : GS} {y : Ly} {ks wk : List Nat} {t : Th} (h : RcA w0 κ G st y P3 P4 (fun i => i = x) ks wk w) (ht : st.th[x]? = some t) (hc : CovF ks t t.l.length) : RcA w0 κ G st y P3 P4 (fun _ => False) ks wk w :=
  ⟨h.rc, h.bas.done fun t' k z h1 h2 h3 => by
    rw [ht] at h1; injection h1 with h1; subst h1
    exact hc k (List.getElem?_eq_some_iff.1 h3).1 h2 z h3⟩

/-- The range over the locals: nothing is left. -/
def NoMore (r : Nat) (w : World) : Prop := ∀ ty, (Instr.next (.pointer (some ⟨r, 0, none⟩)) false ty).run Try.prog w = .ok (.tuple #[.bool false]) w

set_option maxRecDepth 100000 in
set_option maxHeartbeats 4000000 in
theorem reach_any {w : World} {κ : Nat → Option Cl} {G : Nat} {st : GS} {y : Ly} (h : GRL w κ G st y) (hw : WellF st) (hgl : st.glo.length ≤ 1000000) :
    Calls Try.prog 11 #[.pointer (some ⟨G, 0, none⟩)] w fun e w' => ∃ v, e = .returned v ∧ Pure w w' ∧ w'.ownsRow w.heap.size 3 1 v (reachL st).length (nis (reachL st)) := by
  have hS := RcA.start h
  have HW := Lib.hid hw
  have HMK := run_mkmap 63
  have c11 := hS.rc.gr.c11
  obtain ⟨es, clock, hmp, hes⟩ : ∃ (es : Array MapEntry) (clock : Nat), w.heap[y.M]? = some (.map es clock) ∧ ((st.loc = none ∧ es = #[]) ∨ ∃ l born, st.loc = some l ∧ born < clock ∧ es = #[⟨.int .i64 0, .slice (some ⟨y.lb, 0, none⟩) l.length l.length, born⟩]) := by
    have hm := h.map
    generalize hloc : st.loc = loc at hm
    cases loc with
    | none => obtain ⟨c, hc⟩ := hm; exact ⟨_, c, hc, .inl ⟨rfl, rfl⟩⟩
    | some l => obtain ⟨⟨c, b, hb, hc⟩, -⟩ := hm; exact ⟨_, c, hc, .inr ⟨l, b, rfl, hb, rfl⟩⟩
  have HS := Lib.hid hS
  have HMP := Lib.hid hmp
  have HES := Lib.hid hes
  have HG0 := Lib.hid h
  clear hS h hw hmp hes
  go_enter Try.func11, Try.ntmps11
  go_wp2_with fail
  generalize ((w.alloc (.map #[] 0)).alloc (.cells #[.map (some w.heap.size)] 63)).alloc (.cells #[.slice none 0 0] 39) = w1 at *
  obtain ⟨P4, hP4⟩ : ∃ P4, P4 = w.heap.size + 1 + 1 := ⟨_, rfl⟩
  rw [← hP4] at HS ⊢
  obtain ⟨P3, hP3⟩ : ∃ P3, P3 = w.heap.size + 1 := ⟨_, rfl⟩
  rw [← hP3] at HS ⊢
  clear hP3 hP4
  go_loopw [24] (fun i wr => ∃ (k : Nat) (ks wk : List Nat), k ≤ st.glo.length ∧ i = .int .i64 k ∧ RcA w κ G st y P3 P4 (fun _ => False) ks wk wr ∧ CovT ks st.glo k) (fun i _ => st.glo.length - (intOf i).toNat)
  case atStart => exact ⟨0, [], [], Nat.zero_le _, rfl, HS.out, fun v hv => by simp at hv⟩
  case round =>
    obtain ⟨k, ks, wk, hk, rfl, hR, hcv⟩ := hrel
    have R := Lib.hid hR
    have CV := Lib.hid hcv
    clear hR hcv HS c11
    by_cases hlt : k < st.glo.length
    · obtain ⟨u, hu⟩ : ∃ u, st.glo[k]? = some u := ⟨_, List.getElem?_eq_getElem hlt⟩
      obtain ⟨o, ho, hoi⟩ := HW.out.glo u (List.mem_of_getElem? hu)
      obtain ⟨bE, hE, e1, e2⟩ := R.out.rc.gr.gl hu
      obtain ⟨f1, f2⟩ := new2 wr u
      rw [hE]
      have hx : oW o = (u.x, u.y) := ho.symm
      have HG := (R.out.keep ((Only.refl _ wr).alloc (.cells #[.bool u.r, .complex .f64 u.x u.y] 34))).grey HW.out o (fun i e => by subst e; exact .glo (List.mem_of_getElem? hu) ho (hoi i rfl))
      rw [hx] at HG
      have GG := Lib.hid HG
      have HU := Lib.hid hu
      have HO := Lib.hid ho
      clear HG hu ho hx hE hoi
      go_wp2_with fail
      refine GG.out.mono ?_
      rintro e w1 ⟨rfl, hr1, -, -⟩
      have R1 := Lib.hid hr1
      clear hr1 GG
      go_wp2_with fail
      go_roundw
      case rel => exact ⟨k + 1, _, _, by omega, by go_num, R1.out, CV.out.step HU.out HO.out⟩
      case measure => simp [intOf]; omega
    · obtain rfl : k = st.glo.length := by omega
      have c10 := R.out.rc.gr.c10
      have hmp1 := R.out.rc.pu.blk HMP.out
      have hrg := rng_any hmp1
      have hri : (wr.alloc (.mapIter (some y.M) clock #[] clock)).heap[wr.heap.size]? = some (.mapIter (some y.M) clock #[] clock) := heap_alloc_new wr _
      have hpi := (Only.refl (fun _ => False) wr).alloc (.mapIter (some y.M) clock #[] clock)
      have R2 := Lib.hid (R.out.keep hpi)
      have HRI := Lib.hid hri
      have HRK := Lib.hid (show κ wr.heap.size = none from Classical.byContradiction fun hn => by have h1 := R.out.rc.kz _ hn; have h2 := R.out.rc.bs; omega)
      have HRB := Lib.hid R.out.rc.bs
      clear hmp1 hri hpi
      go_wp2_with fail
      obtain ⟨r, hr⟩ : ∃ r, r = wr.heap.size := ⟨_, rfl⟩
      rw [← hr] at HRI HRK HRB ⊢
      clear c10 hrg hr hlt hk
      generalize wr.alloc (.mapIter (some y.M) clock #[] clock) = w2 at *
      clear R wr
      go_loopg [38] 1 (fun g _ wr => ∃ (ks wk : List Nat), RcA w κ G st y P3 P4 (fun _ => False) ks wk wr ∧ CovT ks st.glo st.glo.length ∧ ((NoMore r wr ∧ ∀ l, st.loc = some l → CovR ks l l.length) ∨
          (g = 1 ∧ wr.heap[r]? = some (.mapIter (some y.M) clock #[] clock) ∧ ∃ l born, st.loc = some l ∧ born < clock ∧ es = #[⟨.int .i64 0, .slice (some ⟨y.lb, 0, none⟩) l.length l.length, born⟩])))
      case atStart =>
        refine ⟨ks, wk, R2.out, CV.out, ?_⟩
        rcases HES.out with ⟨h1, h2⟩ | h3
        · subst h2
          exact .inl ⟨fun ty => nxt_none ty HRI.out (R2.out.rc.pu.blk HMP.out) (Nat.le_refl _), fun l e => by rw [h1] at e; cases e⟩
        · exact .inr ⟨rfl, HRI.out, h3⟩
      case round =>
        clear R2 CV HRI HES ks wk
        obtain ⟨ks, wk, hR, hcv, hcase⟩ := hrel
        have R := Lib.hid hR
        have CV := Lib.hid hcv
        clear hR hcv
        rcases hcase with ⟨hno, hcl⟩ | ⟨rfl, hri, l, born, hl, hbc, rfl⟩
        · have CL := Lib.hid hcl
          unfold NoMore at hno
          clear hcl
          go_wp2_with fail
          clear hno
          go_loopg [12] st.th.length (fun g _ wr => ∃ (ks wk : List Nat), RcA w κ G st y P3 P4 (fun _ => False) ks wk wr ∧ CovT ks st.glo st.glo.length ∧ (∀ l, st.loc = some l → CovR ks l l.length) ∧ st.th.length - (ks.length - wk.length) ≤ g)
          case atStart => exact ⟨ks, wk, R.out, CV.out, CL.out, Nat.sub_le _ _⟩
          case round =>
            clear R CV CL ks wk
            obtain ⟨ks, wk, hR, hcv, hcl, hgk⟩ := hrel
            have R := Lib.hid hR
            have CV := Lib.hid hcv
            have CL := Lib.hid hcl
            have GK := Lib.hid hgk
            clear hR hcv hcl hgk
            obtain ⟨c3, A4, n4, c4, b4, own4⟩ := R.out.rc.cells
            rcases List.eq_nil_or_concat wk with rfl | ⟨wk', x, rfl⟩
            · have c9 := R.out.rc.gr.c9
              clear b4 own4
              go_wp2_with fail
              have HKS := reachL_eq (R.out.bas.all HW.out (by simpa [CovT] using CV.out) (fun l e => by simpa [CovR] using CL.out l e))
              have HQ := Lib.hid HKS
              have P0 := Lib.hid R.out.rc.pu
              have B3 := Lib.hid R.out.rc.b3
              have MT := Lib.hid R.out.rc.met
              have LO := Lib.hid R.out.rc.lo
              have BS := Lib.hid R.out.rc.bs
              have hlen := HW.out.len
              obtain ⟨i0, hi0, hz0, hz1, hz2⟩ := info_parts int_info
              clear HKS c3 c4 c9 R CV CL GK
              obtain ⟨w6, hw6⟩ : ∃ w6, w6 = wr := ⟨_, rfl⟩
              rw [← hw6] at P0 B3 MT BS ⊢
              clear hw6 wr
              go_loopw [15, 97] (fun v i wr => ∃ k : Nat, k ≤ st.th.length ∧ i = .int .i64 k ∧ Pure w6 wr ∧ wr.ownsRow w6.heap.size 3 1 v (((List.range k).filter fun i => decide (i ∈ ks)).length) (nis ((List.range k).filter fun i => decide (i ∈ ks)))) (fun _ i _ => st.th.length - (intOf i).toNat)
              case atStart => exact ⟨0, Nat.zero_le _, rfl, Only.refl _ _, World.ownsRow_nil _ _ _ _⟩
              case round =>
                obtain ⟨k, hk, rfl, hp, hown⟩ := hrel
                obtain ⟨A1, n1, rfl⟩ := own_form hown
                have d3 : wr.cell? ⟨P3, 0, none⟩ = some (.map (some w.heap.size)) := Pure.keep hp (by rw [cell_of_row _ _ _ _ _ _ B3.out]; rfl)
                have HP := Lib.hid hp
                have OWN := Lib.hid hown
                have hf : ((List.range k).filter fun i => decide (i ∈ ks)).length ≤ k := Nat.le_trans (List.length_filter_le _ _) (by simp)
                have hsucc : (List.range (k + 1)).filter (fun i => decide (i ∈ ks)) = (List.range k).filter (fun i => decide (i ∈ ks)) ++ if k ∈ ks then [k] else [] := by
                  rw [List.range_succ, List.filter_append]
                  by_cases h : k ∈ ks <;> simp [h]
                have HSU := Lib.hid hsucc
                clear hp hown hsucc
                by_cases hlt : k < st.th.length
                · have hlk := met_look (w := wr) (M := w.heap.size) (k := k) (MT.out.only HP.out (fun f => f)) (by omega)
                  by_cases hin : k ∈ ks
                  · rw [decide_eq_true hin] at hlk
                    rw [if_pos hin] at HSU
                    generalize (List.range k).filter (fun i => decide (i ∈ ks)) = out at *
                    clear hin
                    go_wp2_with (at_builtin; refine wpList_app _ rfl (.tmp 103) (.tmp 105) _ rfl w6.heap.size 3 i0 _ 1 8 Try.underlying39 hi0 hz0 hz1 hz2 rfl (by omega) (.slice A1 out.length n1) out.length _ rfl (World.ownsRow.alloc OWN.out _) _ 1 1 [.int .i64 (k : Int)] rfl (Src.row wr _ #[.int .i64 (k : Int)] 1 1 _ rfl rfl) (by simp [Value.oneCell']) (by simp only [maxLen]; omega) (by omega) (by have := HP.out.size; simp at this ⊢; omega) ?_; intro v2 w2 hown2 hg2 hat2; obtain ⟨A2, n2, rfl⟩ := own_form hown2; have HO2 : Hid (Pure w6 w2) := Lib.hid ((HP.out.alloc _).grown hg2 (fun q hq e => by have := (OWN.out.lt q e).1; omega)); have OWN2 := Lib.hid hown2; clear hown2 hg2 hat2; go_frame)
                    go_roundw
                    case rel => exact ⟨k + 1, by omega, by go_num, HO2.out, by rw [HSU.out]; have := OWN2.out; simpa [nis, ints] using this⟩
                    case measure => simp [intOf]; omega
                  · rw [decide_eq_false hin] at hlk
                    rw [if_neg hin, List.append_nil] at HSU
                    generalize (List.range k).filter (fun i => decide (i ∈ ks)) = out at *
                    clear hin
                    go_wp2_with fail
                    go_roundw
                    case rel => exact ⟨k + 1, by omega, by go_num, HP.out, by rw [HSU.out]; exact OWN.out⟩
                    case measure => simp [intOf]; omega
                · obtain rfl : k = st.th.length := by omega
                  have hq := HQ.out
                  generalize (List.range st.th.length).filter (fun i => decide (i ∈ ks)) = out at *
                  go_wp2_with fail
                  go_ret
                  exact ⟨_, rfl, P0.out.then HP.out, by rw [hq]; exact own_mono OWN.out P0.out.size⟩

            · rw [List.concat_eq_append] at *
              have hx : Rch st x := R.out.bas.rch x (R.out.bas.sub x (by simp))
              obtain ⟨t, ht⟩ : ∃ t, st.th[x]? = some t := ⟨_, List.getElem?_eq_getElem hx.lt⟩
              obtain ⟨p, hp, hT⟩ := HG0.out.thOf ht
              obtain ⟨hlt, b, hB, cb⟩ := R.out.rc.gr.pt hp
              have c9 := R.out.rc.gr.c9
              rw [hB] at c9
              obtain ⟨g, cap, e, -⟩ := own4.form (by simp)
              injection e with e1 e2 e3
              subst e1
              have hxc : wr.cell? ⟨g, wk'.length, none⟩ = some (.int .i64 (x : Int)) := by rw [own4.cellAt _ (by simp)]; simp [nis, ints]
              have hcap := own_cap own4
              have hwl := R.out.wkLe HW.out
              have hf4 := frozen_of_row wr P4 0 _ _ b4
              have RP := Lib.hid (fun nq => (R.out.keep ((Only.refl _ wr).drewN nq)).pop own4)
              obtain ⟨AT, crT, qT, -, -, -, -, t4w, -, bq⟩ := hT.cells
              have t4 := Pure.keep R.out.rc.pu t4w
              have BQ := Lib.hid bq
              have HTT := Lib.hid hT
              have HLE := Lib.hid R.out.bas.le
              have HLT := Lib.hid R.out.bas.lt
              have hrl := HW.out.rsl x t ht
              have hpk : p < w.heap.size := R.out.rc.kz p (by obtain ⟨_, _, _, _, h, _⟩ := hT; rw [h]; simp)
              have hpn : ¬ p = P4 := by have := R.out.rc.lo.2.1; omega
              have hpn' : ¬ P4 = p := fun e => hpn e.symm
              have htl : t.l.length ≤ 1000000 := by obtain ⟨_, _, _, _, _, _, _, _, _, h⟩ := hT; exact h
              have HPK := Lib.hid hpk
              obtain ⟨n0, hn0⟩ : ∃ n0, wk'.length = n0 := ⟨_, rfl⟩
              rw [show (wk' ++ [x]).length = n0 + 1 from by simp [hn0]] at *
              rw [hn0] at hxc RP
              have HN0 := Lib.hid hn0
              have HX := Lib.hid hx
              have HT := Lib.hid ht
              have HP := Lib.hid hp
              have hn1 := hcap.1
              have hn2 : n4 ≤ 9223372036854775807 := hcap.2
              clear hn0 e2 e3 own4 b4 hcap hx ht hp hT hB hpk t4w bq
              go_wp2_with fail
              go_quiet (fail)
              go_wp2_with fail
              have R5 := Lib.hid (RP.out nq)
              clear RP t4 hpn hpn' R hf4 hxc hwl c9 cb hlt c3 c4
              generalize (wr.drewN nq).setCell ⟨P4, 0, none⟩ (.slice (some ⟨g, 0, none⟩) n0 n4) = w5 at *
              clear wr
              go_loopw [80] (fun i wr => ∃ (k : Nat) (ks1 wk1 : List Nat), k ≤ t.l.length ∧ i = .int .i64 k ∧ RcA w κ G st y P3 P4 (fun i => i = x) ks1 wk1 wr ∧ CovT ks1 st.glo st.glo.length ∧ (∀ l, st.loc = some l → CovR ks1 l l.length) ∧ CovF ks1 t k ∧ ks1.length - wk1.length = ks.length - wk'.length) (fun i _ => t.l.length - (intOf i).toNat)
              case atStart => exact ⟨0, ks, wk', Nat.zero_le _, rfl, R5.out, CV.out, CL.out, fun j hj => absurd hj (Nat.not_lt_zero _), rfl⟩
              case round =>
                clear R5 CV CL
                obtain ⟨k, ks1, wk1, hk, rfl, hR, hcv, hcl, hcf, hd⟩ := hrel
                have R := Lib.hid hR
                have CV := Lib.hid hcv
                have CL := Lib.hid hcl
                have CF := Lib.hid hcf
                have HD := Lib.hid hd
                clear hR hcv hcl hcf hd
                by_cases hlt : k < t.l.length
                · obtain ⟨z, hz⟩ : ∃ z, t.l[k]? = some z := ⟨_, List.getElem?_eq_getElem hlt⟩
                  obtain ⟨b0, hb0, hbo⟩ := HW.out.fld x t HT.out k z hz
                  have e1 : wr.cell? ⟨qT, k, none⟩ = some (.complex .f64 z.1 z.2) := by rw [cell_of_row _ _ _ _ _ _ (R.out.rc.pu.blk BQ.out)]; simpa using fcs_get t.l k z hz
                  have HZ := Lib.hid hz
                  have HB0 := Lib.hid hb0
                  have HBO := Lib.hid hbo
                  clear hz hb0 hbo
                  go_wp2_with fail
                  refine (ref_any (HTT.out.only R.out.rc.pu (fun _ _ f => f) (fun _ _ f => f)) k b0 HB0.out hrl).mono ?_
                  rintro e w6 ⟨rfl, rfl⟩
                  cases b0 with
                  | false =>
                    go_wp2_with fail
                    go_roundw
                    case rel => exact ⟨k + 1, _, _, by omega, by go_num, R.out, CV.out, CL.out, CF.out.skip HB0.out, HD.out⟩
                    case measure => simp [intOf]; omega
                  | true =>
                    obtain ⟨o, ho, hoi⟩ := HBO.out rfl
                    have HG := R.out.grey HW.out o (fun i e => by subst e; exact .fld HX.out HT.out HB0.out (by rw [HZ.out, ho]; rfl) (hoi i rfl))
                    rw [← ho] at HG
                    have GG := Lib.hid HG
                    have HO := Lib.hid ho
                    clear HG ho hoi
                    go_wp2_with fail
                    refine GG.out.mono ?_
                    rintro e w7 ⟨rfl, hr1, -, hd⟩
                    have R7 := Lib.hid hr1
                    have HD7 := Lib.hid hd
                    clear hr1 hd GG
                    go_wp2_with fail
                    go_roundw
                    case rel => exact ⟨k + 1, _, _, by omega, by go_num, R7.out, CV.out.add o, fun l e => (CL.out l e).add o, CF.out.step HZ.out HO.out, HD7.out.trans HD.out⟩
                    case measure => simp [intOf]; omega
                · obtain rfl : k = t.l.length := by omega
                  go_wp2_with fail
                  go_roundg (st.th.length - (ks1.length - wk1.length))
                  case measure =>
                    have h1 := GK.out
                    have h2 := HLE.out
                    have h3 := HLT.out
                    have h4 := HD.out
                    have h5 := HN0.out
                    omega
                  case rel => exact ⟨ks1, wk1, R.out.done HT.out CF.out, CV.out, CL.out, Nat.le_refl _⟩

        · obtain ⟨w3, hw3, hnx⟩ := nxt_one 0 hri (R.out.rc.pu.blk HMP.out) (Nat.le_refl _) hbc
          have hp3 : Pure wr w3 := by
            rcases hw3 with rfl | rfl
            · exact Only.refl _ _
            · exact (Only.refl _ _).drewN 1
          have hri3 := hp3.blk hri
          have R3 := Lib.hid ((R.out.keep hp3).iter hri3 HRB.out (.mapIter (some y.M) clock #[born] clock))
          have hri4 : (setBlock w3 r (.mapIter (some y.M) clock #[born] clock)).heap[r]? = some (.mapIter (some y.M) clock #[born] clock) := setBlock_get _ _ _ (Array.getElem?_eq_some_iff.1 hri3).1
          have hent := ent_one hri4 (R3.out.rc.pu.blk HMP.out)
          have HRI := Lib.hid hri4
          have HL := Lib.hid hl
          have HBC := Lib.hid hbc
          clear hri hri3 hri4 hp3 hw3 hl hbc R
          generalize setBlock w3 r (.mapIter (some y.M) clock #[born] clock) = w4 at *
          go_wp2_with fail
          clear hnx hent w3 wr
          go_loopw [44] (fun i wr => ∃ (k : Nat) (ks wk : List Nat), k ≤ l.length ∧ i = .int .i64 k ∧ RcA w κ G st y P3 P4 (fun _ => False) ks wk wr ∧ CovT ks st.glo st.glo.length ∧ CovR ks l k ∧ wr.heap[r]? = some (.mapIter (some y.M) clock #[born] clock)) (fun i _ => l.length - (intOf i).toNat)
          case atStart => exact ⟨0, ks, wk, Nat.zero_le _, rfl, R3.out, CV.out, fun v hv => by simp at hv, HRI.out⟩
          case round =>
            clear R3 CV HRI ks wk
            obtain ⟨k, ks, wk, hk, rfl, hR, hcv, hcr, hri⟩ := hrel
            have R := Lib.hid hR
            have CV := Lib.hid hcv
            have CR := Lib.hid hcr
            have HRI := Lib.hid hri
            clear hR hcv hcr hri
            by_cases hlt : k < l.length
            · obtain ⟨u, hu⟩ : ∃ u, l[k]? = some u := ⟨_, List.getElem?_eq_getElem hlt⟩
              obtain ⟨hlb, hle, -⟩ := R.out.rc.gr.local HL.out
              obtain ⟨e1, e2, -, -⟩ := vcell hlb hu
              obtain ⟨f1, f2⟩ := new2 wr u
              have hpa := (Only.refl (fun _ => False) wr).alloc (.cells #[.bool u.r, .complex .f64 u.x u.y] 34)
              have R1 := Lib.hid (R.out.keep hpa)
              have HU := Lib.hid hu
              have HR1 := Lib.hid (Pure.blk hpa HRI.out)
              obtain ⟨r0, hr0⟩ : ∃ r0, u.r = r0 := ⟨_, rfl⟩
              have HUR := Lib.hid hr0
              cases r0 with
              | false =>
                rw [hr0] at e1 f1
                clear hlb hu hpa hr0
                go_wp2_with fail
                go_roundw
                case rel => first | exact ⟨k + 1, _, _, by omega, by go_num, R1.out, CV.out, CR.out.skip HU.out HUR.out, HR1.out⟩ | (rw [HUR.out] at R1 HR1; exact ⟨k + 1, _, _, by omega, by go_num, R1.out, CV.out, CR.out.skip HU.out HUR.out, HR1.out⟩)
                case measure => simp [intOf]; omega
              | true =>
                obtain ⟨o, ho, hoi⟩ := HW.out.loc l HL.out u (List.mem_of_getElem? hu) hr0
                have hx : oW o = (u.x, u.y) := ho.symm
                have HG := R1.out.grey HW.out o (fun i e => by subst e; exact .loc HL.out (List.mem_of_getElem? hu) hr0 ho (hoi i rfl))
                rw [hx] at HG
                have HO := Lib.hid ho
                rw [hr0] at e1 f1 f2 HG HR1
                have GG := Lib.hid HG
                clear HG hu ho hx hoi hlb hpa hr0
                go_wp2_with fail
                refine GG.out.mono ?_
                rintro e w5 ⟨rfl, hr1, hit, -⟩
                have R5 := Lib.hid hr1
                have HIT := Lib.hid (hit _ _ _ _ _ HR1.out)
                clear hr1 hit GG
                go_wp2_with fail
                go_roundw
                case rel => exact ⟨k + 1, _, _, by omega, by go_num, R5.out, CV.out.add o, CR.out.step HU.out HO.out, HIT.out⟩
                case measure => simp [intOf]; omega
            · obtain rfl : k = l.length := by omega
              go_wp2_with fail
              go_roundg 0
              case measure => omega
              case rel => exact ⟨ks, wk, R.out, CV.out, .inl ⟨fun ty => nxt_done ty HRI.out (R.out.rc.pu.blk HMP.out) (Nat.le_refl _) HBC.out, fun l' e => by rw [HL.out] at e; injection e with e; subst e; exact CR.out⟩⟩

end Go.Proofs.Ytpllolefmijfdaa

