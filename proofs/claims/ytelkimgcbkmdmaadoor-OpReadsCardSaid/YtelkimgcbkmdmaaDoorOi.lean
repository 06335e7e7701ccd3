/-
  Chapter 19: the contract of the reference's Parse.
-/
import Derived.Test.YtelkimgcbkmdmaaDoorOh
import Derived.Test.YtelkimgcbkmdmaaDoorReg
namespace Go.Proofs.YtelkimgcbkmdmaaDoor
open Go.RowKit

theorem numR_range (l : List UInt8) : -9223372036854775808 ≤ (numR l).1 ∧ (numR l).1 ≤ 9223372036854775807 := by
  unfold numR
  split
  · cases h : numGo 0 0 l.tail with
    | none => simp
    | some n =>
      have := numGo_range _ _ _ _ (by omega) (by omega) h
      simp only
      omega
  · cases h : numGo 0 0 l with
    | none => simp
    | some n =>
      have := numGo_range _ _ _ _ (by omega) (by omega) h
      simp only
      split
      · simp
      · simp only
        omega
theorem setF_ok (c : UInt8) (z : Int) (o : O19) (h : o.Ok) (hz : -9223372036854775808 ≤ z ∧ z ≤ 9223372036854775807) : (setF c z o).Ok := by
  unfold setF
  split
  · exact ⟨h.k, hz, h.b, h.c, h.n, h.x, h.y⟩
  · split
    · exact ⟨h.k, h.a, hz, h.c, h.n, h.x, h.y⟩
    · split
      · exact ⟨h.k, h.a, h.b, hz, h.n, h.x, h.y⟩
      · exact ⟨h.k, h.a, h.b, h.c, hz, h.x, h.y⟩
theorem setF_kind (c : UInt8) (z : Int) (o : O19) : (setF c z o).kind = o.kind := by
  unfold setF
  split
  · rfl
  · split
    · rfl
    · split <;> rfl
theorem rd_ok (l : List UInt8) : ∀ (L : List (List UInt8)) (o : O19), o.Ok → (rd l L o).1.Ok ∧ (rd l L o).1.kind = o.kind := by
  induction l with
  | nil => exact fun L o h => ⟨h, rfl⟩
  | cons c r ih =>
    intro L o h
    unfold rd
    split
    · split
      · rename_i s t L'
        have h' : ({ o with x := hexV s, y := hexV t } : O19).Ok := ⟨h.k, h.a, h.b, h.c, h.n, hexV_lt s, hexV_lt t⟩
        split
        · exact ih _ _ h'
        · exact ⟨h', rfl⟩
      · exact ⟨h, rfl⟩
    · split
      · rename_i s L'
        split
        · have := ih L' (setF c (numR s).1 o) (setF_ok c _ o h (numR_range s))
          exact ⟨this.1, this.2.trans (setF_kind _ _ _)⟩
        · exact ⟨h, rfl⟩
      · exact ⟨h, rfl⟩
/-- The reference's reading of a text. -/
def parseR (s : List UInt8) : Option O19 :=
  let k := ofK ((spl s).headD [])
  let r := rd (rn k) (spl s).tail ⟨k, 0, 0, 0, 0, 0, 0⟩
  if k = 0 then none else if r.2 = true ∧ printL r.1 = s then some r.1 else none
def resV : Option O19 → Value
  | some o => .tuple #[opV o, .int .i64 0]
  | none => .tuple #[opV ⟨0, 0, 0, 0, 0, 0, 0⟩, .int .i64 2]
theorem spl_short (s : List UInt8) : (spl s).length ≤ s.length + 1 ∧ ∀ x ∈ spl s, x.length ≤ s.length := by
  induction s with
  | nil => simp [spl]
  | cons b l ih =>
    rw [spl_cons]
    split
    · refine ⟨by simp; omega, fun x hx => ?_⟩
      rcases List.mem_cons.1 hx with rfl | hx
      · simp
      · have := ih.2 x hx; simp; omega
    · cases h : spl l with
      | nil => exact absurd h (spl_ne l)
      | cons a t =>
        rw [h] at ih
        refine ⟨by have := ih.1; simp at this ⊢; omega, fun x hx => ?_⟩
        rcases List.mem_cons.1 hx with rfl | hx
        · have := ih.2 a (by simp); simp; omega
        · have := ih.2 x (by simp [hx]); simp; omega

theorem six {w wr : World} (h : Pure w wr) (v0 v1 v2 v3 v4 v5 : Value) : Pure w ((((((wr.setCell ⟨w.heap.size, 0, none⟩ v0).setCell ⟨w.heap.size, 1, none⟩ v1).setCell ⟨w.heap.size, 2, none⟩ v2).setCell ⟨w.heap.size, 3, none⟩ v3).setCell ⟨w.heap.size, 4, none⟩ v4).setCell ⟨w.heap.size, 5, none⟩ v5) := by
  have key : ∀ (w' : World) (i : Nat) (v : Value), Pure w w' → Pure w (w'.setCell ⟨w.heap.size, i, none⟩ v) := fun w' i v hp => hp.setCell (p := ⟨w.heap.size, i, none⟩) (fun h => absurd h (Nat.lt_irrefl _)) v
  exact key _ _ _ (key _ _ _ (key _ _ _ (key _ _ _ (key _ _ _ (key _ _ _ h)))))
theorem sls_nil (w : World) (A : Option Addr) (c : Nat) (hc : c ≤ 9223372036854775807) : SlS w (.slice A 0 c) [] := ⟨A, c, rfl, Nat.zero_le _, hc, fun h => absurd h (by simp [strs])⟩
theorem sls_tail {w : World} {B g c : Nat} {x : List UInt8} {L : List (List UInt8)} (h : w.ownsRow B 9 1 (.slice (some ⟨g, 0, none⟩) (x :: L).length c) (x :: L).length (strs (x :: L))) : SlS w (.slice (some ⟨g, 1, none⟩) L.length (c - 1)) L := by
  have hcap := own_cap h
  simp only [List.length_cons, maxLen] at hcap
  refine ⟨_, c - 1, by rw [strs_len], by rw [strs_len]; omega, by omega, fun _ => ⟨g, 1, rfl, (h.lt g rfl).2, fun j u hj => ?_⟩⟩
  have hjl : j < L.length := by have := (List.getElem?_eq_some_iff.1 hj).1; rwa [strs_len] at this
  rw [h.cellAt (1 + j) (by simp only [List.length_cons]; omega), show 1 + j = j + 1 from by omega]
  exact hj
theorem parseR_eq {s x : List UInt8} {L : List (List UInt8)} {k : Nat} (h : spl s = x :: L) (hk : ofK x = k) (h0 : 0 < k) (o : O19) (b : Bool) (hr : rd (rn k) L ⟨k, 0, 0, 0, 0, 0, 0⟩ = (o, b)) : parseR s = if b = true ∧ printL o = s then some o else none := by
  unfold parseR
  simp only [h, List.headD_cons, List.tail_cons, hk, hr]
  rw [if_neg (by omega)]
theorem parseR_none {s x : List UInt8} {L : List (List UInt8)} (h : spl s = x :: L) (hk : ofK x = 0) : parseR s = none := by
  unfold parseR
  simp only [h, List.headD_cons, List.tail_cons, hk, if_true]

set_option maxRecDepth 100000 in
set_option maxHeartbeats 4000000 in
theorem rparse_any (s : List UInt8) (w : World) (hs : s.length ≤ 500) : Calls Tryd.prog 6 #[.string (str s)] w fun e w' => e = .returned (resV (parseR s)) ∧ Pure w w' := by
  obtain ⟨x, L, hL⟩ : ∃ x L, spl s = x :: L := by
    cases h : spl s with
    | nil => exact absurd h (spl_ne s)
    | cons x L => exact ⟨x, L, rfl⟩
  obtain ⟨hsh1, hsh2⟩ := spl_short s
  rw [hL] at hsh1 hsh2
  have HL := Lib.hid hL
  have hLl : L.length ≤ 500 := by simp at hsh1; omega
  have HX := Lib.hid (fun y (h : y ∈ L) => Nat.le_trans (hsh2 y (by simp [h])) hs)
  clear hL hsh1 hsh2
  go_enter Tryd.func6, Tryd.ntmps6
  go_wp2_with fail
  refine (rsplit_any s _ (by omega)).mono ?_
  rw [HL.out]
  rintro e w1 ⟨v, rfl, hp1, hown⟩
  obtain ⟨A, cc, rfl⟩ := own_form hown
  obtain ⟨g, cap, e, -⟩ := hown.form (by simp)
  injection e with e1 e2 e3
  subst e1
  clear e2 e3
  have hcap := own_cap hown
  have hx0 : w1.cell? ⟨g, 0, none⟩ = some (.string (str x)) := by rw [hown.cellAt 0 (by simp)]; rfl
  have HOWN := Lib.hid hown
  have hres := heap_alloc_new w (.cells #[.int .i64 0, .int .i64 0, .int .i64 0, .int .i64 0, .int .i64 0, .complex .f64 0 0] 25)
  have HRES := Lib.hid (Pure.blk hp1 hres)
  have P1 := Lib.hid (Pure.then ((Only.refl (fun _ => False) w).alloc (.cells #[.int .i64 0, .int .i64 0, .int .i64 0, .int .i64 0, .int .i64 0, .complex .f64 0 0] 25)) hp1)
  clear hown hres hp1
  go_wp2_with fail
  go_loopw [5] (fun i wr => ∃ k : Nat, 1 ≤ k ∧ k ≤ 19 ∧ i = .int .i64 k ∧ w1 = wr ∧ ∀ j, 0 < j → j < k → kw j ≠ x) (fun i _ => 19 - (intOf i).toNat)
  case atStart => exact ⟨1, by omega, by omega, rfl, rfl, fun j h0 h1 => by omega⟩
  case round =>
    obtain ⟨k, hk0, hk, rfl, rfl, hno⟩ := hrel
    have HNO := Lib.hid hno
    clear hno
    by_cases hlt : k < 19
    · go_wp2_with fail
      refine (word_l k hk0 hlt _).mono ?_
      rintro e w2 ⟨rfl, rfl⟩
      by_cases hxk : kw k = x
      · have hb : ((str (kw k)).toList == (str x).toList) = true := by rw [str_toList, str_toList]; simp [hxk]
        have hb2 : ((str (kw k)).toList != (str x).toList) = false := by rw [str_toList, str_toList]; simp [hxk]
        have HXK := Lib.hid hxk
        have HOK := Lib.hid (ofK_some x k hk0 hlt HXK.out HNO.out)
        have HCAP := Lib.hid hcap
        clear hxk
        by_cases hc1 : cc = 1
        case' pos =>
          have hL0 : L = [] := List.eq_nil_of_length_eq_zero (by have := HCAP.out.1; simp at this; omega)
          have hSL : SlS w1 (.slice (some ⟨g, 0, none⟩) L.length 0) L := by rw [hL0]; exact sls_nil _ _ _ (by omega)
          clear hL0
        case' neg =>
          have hSL : SlS w1 (.slice (some ⟨g, 1, none⟩) L.length (cc - 1)) L := sls_tail HOWN.out
        all_goals
          have HSL := Lib.hid hSL
          clear hSL
          go_wp2_with fail
          clear hx0
          obtain ⟨⟨o2, ok⟩, hrd⟩ : ∃ p, rd (rn k) L ⟨k, 0, 0, 0, 0, 0, 0⟩ = p := ⟨_, rfl⟩
          have hok2 := rd_ok (rn k) L ⟨k, 0, 0, 0, 0, 0, 0⟩ ⟨hlt, by simp, by simp, by simp, by simp, by simp, by simp⟩
          rw [hrd] at hok2
          have HO2 := Lib.hid hok2
          have HPR := Lib.hid (parseR_eq HL.out HOK.out hk0 o2 ok hrd)
          have hread := read_any k (rn k) _ L w1 (rn_sig k hlt) (rn_len k hlt).1 HSL.out (by omega) (fun y hy => by have := HX.out y hy; omega)
          rw [hrd] at hread
          have HREAD := Lib.hid hread
          clear hrd hok2 hread
          refine HREAD.out.mono ?_
          rintro e w2 ⟨rfl, hp2⟩
          have hpa := (Only.refl (fun _ => False) w2).alloc (.cells (opC o2) 25)
          have P2 := Lib.hid (Pure.then (P1.out.then hp2) hpa)
          have RES2 := Lib.hid (Pure.blk hpa (Pure.blk hp2 HRES.out))
          have B2 := heap_alloc_new w2 (.cells (opC o2) 25)
          obtain ⟨d0, d1, d2, d3, d4, d5⟩ := op6 B2
          have BB2 := Lib.hid B2
          have hlt2 : w.heap.size < w2.heap.size := (Array.getElem?_eq_some_iff.1 (Pure.blk hp2 HRES.out)).1
          have hne1 : ¬ w.heap.size = w2.heap.size := by omega
          have hne2 : ¬ w2.heap.size = w.heap.size := by omega
          obtain ⟨W3, hW3⟩ : ∃ W3, W3 = w2.alloc (.cells (opC o2) 25) := ⟨_, rfl⟩
          have hW3x : w2.alloc (.cells #[.int .i64 (o2.kind : Int), .int .i64 o2.a, .int .i64 o2.b, .int .i64 o2.c, .int .i64 o2.n, .complex .f64 o2.x o2.y] 25) = W3 := hW3.symm
          rw [← hW3] at d0 d1 d2 d3 d4 d5 P2 RES2 BB2
          clear hpa hp2 hW3 B2
          obtain ⟨R2, hR2⟩ : ∃ R2, R2 = w2.heap.size := ⟨_, rfl⟩
          have g0 := fun i => frozen_of_row W3 w.heap.size i _ _ RES2.out
          have q0 := fun i hi => opC_cell RES2.out rfl i hi
          obtain ⟨u0, e0⟩ := q0 0 (by omega)
          obtain ⟨u1, e1⟩ := q0 1 (by omega)
          obtain ⟨u2, e2⟩ := q0 2 (by omega)
          obtain ⟨u3, e3⟩ := q0 3 (by omega)
          obtain ⟨u4, e4⟩ := q0 4 (by omega)
          obtain ⟨u5, e5⟩ := q0 5 (by omega)
          clear q0
          cases ok
          case' false =>
            have hp : parseR s = none := by rw [HPR.out]; simp
            have HP := Lib.hid hp
            clear hp
            go_wp2_with fail
            refine bodyPost_ret (v := resV none) (by simp [results, Tryd.results6, go_sem, resV, e0, e1, e2, e3, e4, e5]) rfl ⟨by rw [HP.out], ?_⟩
            exact six P2.out _ _ _ _ _ _
          case' true =>
            go_wp2_with fail
            refine (rprint_any o2 _ HO2.out.1 (by rw [HO2.out.2]; exact hk0)).mono ?_
            rintro e w4 ⟨rfl, hp4⟩
            have P4 := Lib.hid (P2.out.then hp4)
            have RES4 := Lib.hid (hp4.blk RES2.out)
            clear g0 e0 e1 e2 e3 e4 e5
            obtain ⟨d0, d1, d2, d3, d4, d5⟩ := op6 (hp4.blk BB2.out)
            have g0 := fun i => frozen_of_row w4 w.heap.size i _ _ RES4.out
            have q0 := fun i hi => opC_cell RES4.out rfl i hi
            obtain ⟨u0, e0⟩ := q0 0 (by omega)
            obtain ⟨u1, e1⟩ := q0 1 (by omega)
            obtain ⟨u2, e2⟩ := q0 2 (by omega)
            obtain ⟨u3, e3⟩ := q0 3 (by omega)
            obtain ⟨u4, e4⟩ := q0 4 (by omega)
            obtain ⟨u5, e5⟩ := q0 5 (by omega)
            clear q0 hp4
            by_cases hps : printL o2 = s
            · have hb : ((str (printL o2)).toList == (str s).toList) = true := by rw [str_toList, str_toList]; simp [hps]
              have hb2 : ((str (printL o2)).toList != (str s).toList) = false := by rw [str_toList, str_toList]; simp [hps]
              have hp : parseR s = some o2 := by rw [HPR.out, if_pos (by simp [hps])]
              have HP := Lib.hid hp
              clear hp hps
              go_wp2_with fail
              refine bodyPost_ret (v := resV (some o2)) (by simp [results, Tryd.results6, go_sem, resV, e0, e1, e2, e3, e4, e5]) rfl ⟨by rw [HP.out], ?_⟩
              exact six P4.out _ _ _ _ _ _
            · have hb : ((str (printL o2)).toList == (str s).toList) = false := by rw [str_toList, str_toList]; simp [hps]
              have hb2 : ((str (printL o2)).toList != (str s).toList) = true := by rw [str_toList, str_toList]; simp [hps]
              have hp : parseR s = none := by rw [HPR.out, if_neg (fun e => hps e.2)]
              have HP := Lib.hid hp
              clear hp hps
              go_wp2_with fail
              refine bodyPost_ret (v := resV none) (by simp [results, Tryd.results6, go_sem, resV, e0, e1, e2, e3, e4, e5]) rfl ⟨by rw [HP.out], ?_⟩
              exact six P4.out _ _ _ _ _ _
      · have hb : ((str (kw k)).toList == (str x).toList) = false := by rw [str_toList, str_toList]; simp [hxk]
        have hb2 : ((str (kw k)).toList != (str x).toList) = true := by rw [str_toList, str_toList]; simp [hxk]
        have HXK := Lib.hid hxk
        clear hxk
        go_wp2_with fail
        go_roundw
        case rel => exact ⟨k + 1, by omega, by omega, by go_num, trivial, fun j h0 h1 => by
          by_cases hj : j = k
          · subst hj; exact HXK.out
          · exact HNO.out j h0 (by omega)⟩
        case measure => simp [intOf]; omega
    · obtain rfl : k = 19 := by omega
      have hp : parseR s = none := parseR_none HL.out (ofK_none x HNO.out)
      have HP := Lib.hid hp
      have g0 := fun i => frozen_of_row w1 w.heap.size i _ _ HRES.out
      have q0 := fun i hi => opC_cell HRES.out rfl i hi
      obtain ⟨u0, e0⟩ := q0 0 (by omega)
      obtain ⟨u1, e1⟩ := q0 1 (by omega)
      obtain ⟨u2, e2⟩ := q0 2 (by omega)
      obtain ⟨u3, e3⟩ := q0 3 (by omega)
      obtain ⟨u4, e4⟩ := q0 4 (by omega)
      obtain ⟨u5, e5⟩ := q0 5 (by omega)
      clear q0 hp
      go_wp2_with fail
      refine bodyPost_ret (v := resV none) (by simp [results, Tryd.results6, go_sem, resV, e0, e1, e2, e3, e4, e5]) rfl ⟨by rw [HP.out], ?_⟩
      exact six P1.out _ _ _ _ _ _

end Go.Proofs.YtelkimgcbkmdmaaDoor
