/-
  Chapter 19: the contract of the reference's read: what stands behind a word.
-/
import Derived.Test.YtelkimgcbkmdmaaDoorOg
namespace Go.Proofs.YtelkimgcbkmdmaaDoor
open Go.RowKit

@[go_sem] theorem run_store_cx {P : Program} {w : World} (a : Addr) (x y : Nat) (m : Mode) : (store a (.complex .f64 x y) m).run P w = stored P w a (.complex .f64 x y) m := run_store P w a _ m rfl

def setF (c : UInt8) (z : Int) (o : O19) : O19 := if c = 97 ∨ c = 65 then { o with a := z } else if c = 98 ∨ c = 107 ∨ c = 66 then { o with b := z } else if c = 99 ∨ c = 67 then { o with c := z } else { o with n := z }
def okH (s : List UInt8) : Bool := decide (hexL (hexV s) = s)
/-- What stands behind a word, read by its signs. -/
def rd : List UInt8 → List (List UInt8) → O19 → O19 × Bool
  | [], L, o => (o, decide (L = []))
  | c :: r, L, o => if c = 122 then (match L with
      | s :: t :: L' => if okH s && okH t then rd r L' { o with x := hexV s, y := hexV t } else ({ o with x := hexV s, y := hexV t }, false)
      | _ => (o, false))
    else match L with
      | s :: L' => if (numR s).2 then rd r L' (setF c (numR s).1 o) else (o, false)
      | [] => (o, false)
theorem frombits_run (b : Nat) (w : World) : (callFunc 15 #[.int .u64 (b : Int)]).run Tryd.prog w = .ok (.value (.float .f64 b)) w := rfl
section
variable {w : World} {X : Nat} {o : O19} (h : w.heap[X]? = some (.cells (opC o) 25 (0, 0)))
include h
theorem set_a (z : Int) : (w.setCell ⟨X, 1, none⟩ (.int .i64 z)).heap[X]? = some (.cells (opC { o with a := z }) 25 (0, 0)) := by simp [World.setCell, Array.getElem?_modify, h]
theorem set_b (z : Int) : (w.setCell ⟨X, 2, none⟩ (.int .i64 z)).heap[X]? = some (.cells (opC { o with b := z }) 25 (0, 0)) := by simp [World.setCell, Array.getElem?_modify, h]
theorem set_c (z : Int) : (w.setCell ⟨X, 3, none⟩ (.int .i64 z)).heap[X]? = some (.cells (opC { o with c := z }) 25 (0, 0)) := by simp [World.setCell, Array.getElem?_modify, h]
theorem set_n (z : Int) : (w.setCell ⟨X, 4, none⟩ (.int .i64 z)).heap[X]? = some (.cells (opC { o with n := z }) 25 (0, 0)) := by simp [World.setCell, Array.getElem?_modify, h]
theorem set_z (x y : Nat) : (w.setCell ⟨X, 5, none⟩ (.complex .f64 x y)).heap[X]? = some (.cells (opC { o with x := x, y := y }) 25 (0, 0)) := by simp [World.setCell, Array.getElem?_modify, h]
theorem op_fro (i : Nat) : w.frozen? ⟨X, i, none⟩ = false := frozen_of_row w X i _ _ h
end
theorem opC_cell {w : World} {R : Nat} {cs : Array Value} {T : TypeId} (h : w.heap[R]? = some (.cells cs T (0, 0))) (hs : cs.size = 6) (i : Nat) (hi : i < 6) : ∃ v, w.cell? ⟨R, i, none⟩ = some v := by
  rw [cell_of_row _ _ _ _ _ _ h]
  exact ⟨_, Array.getElem?_eq_getElem (by omega)⟩

/-- The slice v reads as the strings L. -/
def SlS (w : World) (v : Value) (L : List (List UInt8)) : Prop := SlG w w.heap.size v (strs L)
theorem SlS.form {w : World} {v : Value} {L : List (List UInt8)} (h : SlS w v L) : ∃ A c, v = .slice A L.length c ∧ (0 < L.length → ∃ b off, A = some ⟨b, off, none⟩ ∧ ∀ (j : Nat) x, L[j]? = some x → w.cell? ⟨b, off + j, none⟩ = some (.string (str x))) := by
  obtain ⟨A, c, e, -, -, h4⟩ := h
  rw [strs_len] at e h4
  refine ⟨A, c, e, fun hp => ?_⟩
  obtain ⟨b, off, hA, -, hc⟩ := h4 hp
  exact ⟨b, off, hA, fun j x hx => hc j _ (by simp [strs, hx])⟩

/-- While read works: its result's block is w.heap.size, its operation's the next. -/
structure RdR (w : World) (o : O19) (wr : World) : Prop where
  pu : Pure w wr
  res : wr.heap[w.heap.size]? = some (.cells #[.int .i64 0, .int .i64 0, .int .i64 0, .int .i64 0, .int .i64 0, .complex .f64 0 0] 25 (0, 0))
  op : wr.heap[w.heap.size + 1]? = some (.cells (opC o) 25 (0, 0))
theorem RdR.keep {w wr w' : World} {o : O19} (h : RdR w o wr) (k : Pure wr w') : RdR w o w' := ⟨h.pu.then k, k.blk h.res, k.blk h.op⟩
theorem Only.blk {S : Nat → Prop} {w w' : World} (h : Only S w w') {b : Nat} {o : Obj} (hb : w.heap[b]? = some o) (hn : ¬ S b) : w'.heap[b]? = some o := (h.block b (Array.getElem?_eq_some_iff.1 hb).1 hn).trans hb
theorem RdR.put {w wr : World} {o o' : O19} {i : Nat} {v : Value} (h : RdR w o wr) (hs : (wr.setCell ⟨w.heap.size + 1, i, none⟩ v).heap[w.heap.size + 1]? = some (.cells (opC o') 25 (0, 0))) : RdR w o' (wr.setCell ⟨w.heap.size + 1, i, none⟩ v) := by
  have ho : Only (fun k => k = w.heap.size + 1) wr (wr.setCell ⟨w.heap.size + 1, i, none⟩ v) := (Only.refl (fun k => k = w.heap.size + 1) wr).setCell (p := ⟨w.heap.size + 1, i, none⟩) (fun _ => rfl) _
  exact ⟨h.pu.trans ho (fun k hk e => by omega), ho.blk h.res (by omega), hs⟩
theorem RdR.start (w : World) (k : Nat) : RdR w ⟨k, 0, 0, 0, 0, 0, 0⟩ ((w.alloc (.cells #[.int .i64 0, .int .i64 0, .int .i64 0, .int .i64 0, .int .i64 0, .complex .f64 0 0] 25)).alloc (.cells #[.int .i64 (k : Int), .int .i64 0, .int .i64 0, .int .i64 0, .int .i64 0, .complex .f64 0 0] 25)) := by
  have s1 : (w.alloc (.cells #[.int .i64 0, .int .i64 0, .int .i64 0, .int .i64 0, .int .i64 0, .complex .f64 0 0] 25)).heap.size = w.heap.size + 1 := by simp
  have a2 := heap_alloc_new (w.alloc (.cells #[.int .i64 0, .int .i64 0, .int .i64 0, .int .i64 0, .int .i64 0, .complex .f64 0 0] 25)) (.cells #[.int .i64 (k : Int), .int .i64 0, .int .i64 0, .int .i64 0, .int .i64 0, .complex .f64 0 0] 25)
  rw [s1] at a2
  exact ⟨((Only.refl _ _).alloc _).alloc _, Pure.blk ((Only.refl (fun _ => False) _).alloc _) (heap_alloc_new w _), a2⟩
/-- The world behind the return. -/
theorem RdR.out {w wr : World} {o : O19} (h : RdR w o wr) (v0 v1 v2 v3 v4 v5 : Value) : Pure w ((((((wr.setCell ⟨w.heap.size, 0, none⟩ v0).setCell ⟨w.heap.size, 1, none⟩ v1).setCell ⟨w.heap.size, 2, none⟩ v2).setCell ⟨w.heap.size, 3, none⟩ v3).setCell ⟨w.heap.size, 4, none⟩ v4).setCell ⟨w.heap.size, 5, none⟩ v5) := by
  have key : ∀ (w' : World) (i : Nat) (v : Value), Pure w w' → Pure w (w'.setCell ⟨w.heap.size, i, none⟩ v) := fun w' i v hp => hp.setCell (p := ⟨w.heap.size, i, none⟩) (fun h => absurd h (Nat.lt_irrefl _)) v
  exact key _ _ _ (key _ _ _ (key _ _ _ (key _ _ _ (key _ _ _ (key _ _ _ h.pu)))))

set_option maxRecDepth 100000 in
set_option maxHeartbeats 4000000 in
theorem read_any (k : Nat) (l : List UInt8) (v : Value) (L : List (List UInt8)) (w : World) (hl : ∀ c ∈ l, RSig c) (hl3 : l.length ≤ 3) (hv : SlS w v L) (hL : L.length ≤ 1000) (hx : ∀ x ∈ L, x.length ≤ 1000) :
    Calls Tryd.prog 18 #[.int .i64 k, .string (str l), v] w fun e w' => e = .returned (.tuple #[opV (rd l L ⟨k, 0, 0, 0, 0, 0, 0⟩).1, .bool (rd l L ⟨k, 0, 0, 0, 0, 0, 0⟩).2]) ∧ Pure w w' := by
  obtain ⟨A, cc, rfl, hA⟩ := hv.form
  have HSL := Lib.hid hA
  have HX := Lib.hid hx
  have HSIG := Lib.hid hl
  have R0 := Lib.hid (RdR.start w k)
  have hsz := str_size l
  obtain ⟨res, hres⟩ : ∃ res, rd l L ⟨k, 0, 0, 0, 0, 0, 0⟩ = res := ⟨_, rfl⟩
  rw [hres]
  have HRES := Lib.hid hres
  clear hv hA hx hl hres
  go_enter Tryd.func18, Tryd.ntmps18
  go_wp2_with fail
  generalize (w.alloc (.cells #[.int .i64 0, .int .i64 0, .int .i64 0, .int .i64 0, .int .i64 0, .complex .f64 0 0] 25)).alloc (.cells #[.int .i64 (k : Int), .int .i64 0, .int .i64 0, .int .i64 0, .int .i64 0, .complex .f64 0 0] 25) = w2 at *
  go_loopw [9, 10] (fun q i wr => ∃ (j at_ : Nat) (o : O19), j ≤ l.length ∧ at_ ≤ L.length ∧ i = .int .i64 j ∧ q = .int .i64 at_ ∧ RdR w o wr ∧ rd (l.drop j) (L.drop at_) o = res) (fun _ i _ => l.length - (intOf i).toNat)
  case atStart => exact ⟨0, 0, _, Nat.zero_le _, Nat.zero_le _, rfl, rfl, R0.out, HRES.out⟩
  case round =>
    clear R0 HRES
    obtain ⟨j, at_, o, hj, hat, rfl, rfl, hR, hrd⟩ := hrel
    have R := Lib.hid hR
    obtain ⟨d0, d1, d2, d3, d4, d5⟩ := op6 hR.op
    have f0 := fun i => op_fro hR.op i
    have q0 := fun i hi => opC_cell hR.res rfl i hi
    obtain ⟨u0, e0⟩ := q0 0 (by omega)
    obtain ⟨u1, e1⟩ := q0 1 (by omega)
    obtain ⟨u2, e2⟩ := q0 2 (by omega)
    obtain ⟨u3, e3⟩ := q0 3 (by omega)
    obtain ⟨u4, e4⟩ := q0 4 (by omega)
    obtain ⟨u5, e5⟩ := q0 5 (by omega)
    have g0 := fun i => frozen_of_row wr w.heap.size i _ _ hR.res
    clear q0 hR
    by_cases hlt : j < l.length
    · obtain ⟨c, hb⟩ : ∃ c, l[j]? = some c := ⟨_, List.getElem?_eq_getElem hlt⟩
      have hch := str_at l j c hb
      have hdl : l.drop j = c :: l.drop (j + 1) := by
        rw [List.drop_eq_getElem_cons hlt]
        rw [List.getElem?_eq_getElem hlt] at hb
        injection hb with hb
        rw [hb]
      have hcs := HSIG.out c (List.mem_of_getElem? hb)
      rw [hdl] at hrd
      clear hb hdl
      by_cases hend : at_ = L.length
      · subst hend
        have hr : res = (o, false) := by
          rw [← hrd, List.drop_length]
          simp only [rd]
          split <;> rfl
        have HR := Lib.hid hr
        clear hrd hr hch hcs
        go_wp2_with fail
        refine bodyPost_ret (v := .tuple #[opV o, .bool false]) (by simp [results, Tryd.results18, go_sem, e0, e1, e2, e3, e4, e5]) rfl ⟨by rw [HR.out], R.out.out _ _ _ _ _ _⟩
      · have hatl : at_ < L.length := by omega
        have hatn : ¬ L.length ≤ at_ := by omega
        obtain ⟨s, hs⟩ : ∃ s, L[at_]? = some s := ⟨_, List.getElem?_eq_getElem hatl⟩
        have hLd : L.drop at_ = s :: L.drop (at_ + 1) := by
          rw [List.drop_eq_getElem_cons hatl]
          rw [List.getElem?_eq_getElem hatl] at hs
          injection hs with hs
          rw [hs]
        obtain ⟨b, off, hAb, hc⟩ := HSL.out (by omega)
        subst hAb
        by_cases hw : c = 122
        · subst hw
          by_cases hone : at_ + 1 = L.length
          · have hr : res = (o, false) := by
              rw [← hrd, hLd, hone, List.drop_length]
              rfl
            have HR := Lib.hid hr
            have h1 : (L.length : Int) ≤ (at_ : Int) + 1 := by omega
            clear hrd hr hcs hs hLd hc
            go_wp2_with fail
            refine bodyPost_ret (v := .tuple #[opV o, .bool false]) (by simp [results, Tryd.results18, go_sem, e0, e1, e2, e3, e4, e5]) rfl ⟨by rw [HR.out], R.out.out _ _ _ _ _ _⟩
          · have hat1 : at_ + 1 < L.length := by omega
            obtain ⟨t, ht⟩ : ∃ t, L[at_ + 1]? = some t := ⟨_, List.getElem?_eq_getElem hat1⟩
            have hLd2 : L.drop (at_ + 1) = t :: L.drop (at_ + 2) := by
              rw [List.drop_eq_getElem_cons hat1]
              rw [List.getElem?_eq_getElem hat1] at ht
              injection ht with ht
              rw [ht]
            have cs := R.out.pu.keep (hc at_ s hs)
            have ct := R.out.pu.keep (hc (at_ + 1) t ht)
            have hsl := HX.out s (List.mem_of_getElem? hs)
            have htl := HX.out t (List.mem_of_getElem? ht)
            have hn1 : ¬ L.length ≤ at_ + 1 := by omega
            rw [hLd, hLd2] at hrd
            simp only [rd, if_true] at hrd
            have HRD := Lib.hid hrd
            obtain ⟨oks, hoks⟩ : ∃ oks, okH s = oks := ⟨_, rfl⟩
            obtain ⟨okt, hokt⟩ : ∃ okt, okH t = okt := ⟨_, rfl⟩
            have HOS := Lib.hid hoks
            have HOT := Lib.hid hokt
            have hfs := frombits_run (hexV s)
            have hft := frombits_run (hexV t)
            clear hrd hs ht hLd hLd2 hc hcs hoks hokt
            go_wp2_with fail
            refine (rhex_any s _ hsl).mono ?_
            rw [show decide (hexL (hexV s) = s) = oks from HOS.out]
            rintro e w3 ⟨rfl, hp3⟩
            have R3 := Lib.hid (R.out.keep hp3)
            have ct := hp3.keep ct
            clear hp3 cs d0 d1 d2 d3 d4 d5 e0 e1 e2 e3 e4 e5 f0 g0
            go_wp2_with fail
            refine (rhex_any t _ htl).mono ?_
            rw [show decide (hexL (hexV t) = t) = okt from HOT.out]
            rintro e w4 ⟨rfl, hp4⟩
            have R4 := Lib.hid (R3.out.keep hp4)
            have R5 := Lib.hid (R4.out.put (set_z R4.out.op (hexV s) (hexV t)))
            clear hp4 ct
            have q0 := fun i hi => opC_cell R4.out.res rfl i hi
            obtain ⟨u0, e0⟩ := q0 0 (by omega)
            obtain ⟨u1, e1⟩ := q0 1 (by omega)
            obtain ⟨u2, e2⟩ := q0 2 (by omega)
            obtain ⟨u3, e3⟩ := q0 3 (by omega)
            obtain ⟨u4, e4⟩ := q0 4 (by omega)
            obtain ⟨u5, e5⟩ := q0 5 (by omega)
            have g0 := fun i => frozen_of_row _ w.heap.size i _ _ R4.out.res
            obtain ⟨d0, d1, d2, d3, d4, d5⟩ := op6 R4.out.op
            have f0 := fun i => op_fro R4.out.op i
            clear q0
            cases oks
            case' false =>
              have hr : res = ({ o with x := hexV s, y := hexV t }, false) := by rw [← HRD.out, HOS.out]; rfl
              have HR := Lib.hid hr
              clear hr
              go_wp2_with fail
              refine bodyPost_ret (v := .tuple #[opV { o with x := hexV s, y := hexV t }, .bool false]) (by simp [results, Tryd.results18, go_sem, e0, e1, e2, e3, e4, e5]) rfl ⟨by rw [HR.out], R5.out.out _ _ _ _ _ _⟩
            case' true =>
              cases okt
              case' false =>
                have hr : res = ({ o with x := hexV s, y := hexV t }, false) := by rw [← HRD.out, HOS.out, HOT.out]; rfl
                have HR := Lib.hid hr
                clear hr
                go_wp2_with fail
                refine bodyPost_ret (v := .tuple #[opV { o with x := hexV s, y := hexV t }, .bool false]) (by simp [results, Tryd.results18, go_sem, e0, e1, e2, e3, e4, e5]) rfl ⟨by rw [HR.out], R5.out.out _ _ _ _ _ _⟩
              case' true =>
                have hr : rd (l.drop (j + 1)) (L.drop (at_ + 2)) { o with x := hexV s, y := hexV t } = res := by rw [← HRD.out, HOS.out, HOT.out]; rfl
                have HR := Lib.hid hr
                clear hr
                go_wp2_with fail
                go_roundw
                case rel => exact ⟨j + 1, at_ + 2, _, by omega, by omega, by go_num, by go_num, R5.out, HR.out⟩
                case measure => simp [intOf]; omega
        · have cs := R.out.pu.keep (hc at_ s hs)
          have hsl := HX.out s (List.mem_of_getElem? hs)
          rw [hLd] at hrd
          simp only [rd, if_neg hw] at hrd
          have HRD := Lib.hid hrd
          obtain ⟨nv, hnv⟩ : ∃ nv, (numR s).1 = nv := ⟨_, rfl⟩
          obtain ⟨nb, hnb⟩ : ∃ nb, (numR s).2 = nb := ⟨_, rfl⟩
          rw [hnv, hnb] at HRD
          have HNV := Lib.hid hnv
          have HNB := Lib.hid hnb
          clear hrd hs hLd hc hnv hnb
          rcases hcs with rfl | rfl | rfl | rfl | rfl | rfl
          · go_wp2_with fail
            refine (num_any s _ hsl).mono ?_
            rw [HNV.out, HNB.out]
            rintro e w3 ⟨rfl, hp3⟩
            have R3 := Lib.hid (R.out.keep hp3)
            have R5 := Lib.hid (R3.out.put (set_a R3.out.op nv))
            clear hp3 cs d0 d1 d2 d3 d4 d5 e0 e1 e2 e3 e4 e5 f0 g0
            have q0 := fun i hi => opC_cell R3.out.res rfl i hi
            obtain ⟨u0, e0⟩ := q0 0 (by omega)
            obtain ⟨u1, e1⟩ := q0 1 (by omega)
            obtain ⟨u2, e2⟩ := q0 2 (by omega)
            obtain ⟨u3, e3⟩ := q0 3 (by omega)
            obtain ⟨u4, e4⟩ := q0 4 (by omega)
            obtain ⟨u5, e5⟩ := q0 5 (by omega)
            have g0 := fun i => frozen_of_row _ w.heap.size i _ _ R3.out.res
            obtain ⟨d0, d1, d2, d3, d4, d5⟩ := op6 R3.out.op
            have f0 := fun i => op_fro R3.out.op i
            clear q0
            cases nb
            case' false =>
              have hr : res = (o, false) := by rw [← HRD.out]; rfl
              have HR := Lib.hid hr
              clear hr
              go_wp2_with fail
              refine bodyPost_ret (v := .tuple #[opV o, .bool false]) (by simp [results, Tryd.results18, go_sem, e0, e1, e2, e3, e4, e5]) rfl ⟨by rw [HR.out], R3.out.out _ _ _ _ _ _⟩
            case' true =>
              have hr : rd (l.drop (j + 1)) (L.drop (at_ + 1)) { o with a := nv } = res := by rw [← HRD.out]; rfl
              have HR := Lib.hid hr
              clear hr
              go_wp2_with fail
              go_roundw
              case rel => exact ⟨j + 1, at_ + 1, _, by omega, by omega, by go_num, by go_num, R5.out, HR.out⟩
              case measure => simp [intOf]; omega
          · go_wp2_with fail
            refine (num_any s _ hsl).mono ?_
            rw [HNV.out, HNB.out]
            rintro e w3 ⟨rfl, hp3⟩
            have R3 := Lib.hid (R.out.keep hp3)
            have R5 := Lib.hid (R3.out.put (set_b R3.out.op nv))
            clear hp3 cs d0 d1 d2 d3 d4 d5 e0 e1 e2 e3 e4 e5 f0 g0
            have q0 := fun i hi => opC_cell R3.out.res rfl i hi
            obtain ⟨u0, e0⟩ := q0 0 (by omega)
            obtain ⟨u1, e1⟩ := q0 1 (by omega)
            obtain ⟨u2, e2⟩ := q0 2 (by omega)
            obtain ⟨u3, e3⟩ := q0 3 (by omega)
            obtain ⟨u4, e4⟩ := q0 4 (by omega)
            obtain ⟨u5, e5⟩ := q0 5 (by omega)
            have g0 := fun i => frozen_of_row _ w.heap.size i _ _ R3.out.res
            obtain ⟨d0, d1, d2, d3, d4, d5⟩ := op6 R3.out.op
            have f0 := fun i => op_fro R3.out.op i
            clear q0
            cases nb
            case' false =>
              have hr : res = (o, false) := by rw [← HRD.out]; rfl
              have HR := Lib.hid hr
              clear hr
              go_wp2_with fail
              refine bodyPost_ret (v := .tuple #[opV o, .bool false]) (by simp [results, Tryd.results18, go_sem, e0, e1, e2, e3, e4, e5]) rfl ⟨by rw [HR.out], R3.out.out _ _ _ _ _ _⟩
            case' true =>
              have hr : rd (l.drop (j + 1)) (L.drop (at_ + 1)) { o with b := nv } = res := by rw [← HRD.out]; rfl
              have HR := Lib.hid hr
              clear hr
              go_wp2_with fail
              go_roundw
              case rel => exact ⟨j + 1, at_ + 1, _, by omega, by omega, by go_num, by go_num, R5.out, HR.out⟩
              case measure => simp [intOf]; omega
          · go_wp2_with fail
            refine (num_any s _ hsl).mono ?_
            rw [HNV.out, HNB.out]
            rintro e w3 ⟨rfl, hp3⟩
            have R3 := Lib.hid (R.out.keep hp3)
            have R5 := Lib.hid (R3.out.put (set_b R3.out.op nv))
            clear hp3 cs d0 d1 d2 d3 d4 d5 e0 e1 e2 e3 e4 e5 f0 g0
            have q0 := fun i hi => opC_cell R3.out.res rfl i hi
            obtain ⟨u0, e0⟩ := q0 0 (by omega)
            obtain ⟨u1, e1⟩ := q0 1 (by omega)
            obtain ⟨u2, e2⟩ := q0 2 (by omega)
            obtain ⟨u3, e3⟩ := q0 3 (by omega)
            obtain ⟨u4, e4⟩ := q0 4 (by omega)
            obtain ⟨u5, e5⟩ := q0 5 (by omega)
            have g0 := fun i => frozen_of_row _ w.heap.size i _ _ R3.out.res
            obtain ⟨d0, d1, d2, d3, d4, d5⟩ := op6 R3.out.op
            have f0 := fun i => op_fro R3.out.op i
            clear q0
            cases nb
            case' false =>
              have hr : res = (o, false) := by rw [← HRD.out]; rfl
              have HR := Lib.hid hr
              clear hr
              go_wp2_with fail
              refine bodyPost_ret (v := .tuple #[opV o, .bool false]) (by simp [results, Tryd.results18, go_sem, e0, e1, e2, e3, e4, e5]) rfl ⟨by rw [HR.out], R3.out.out _ _ _ _ _ _⟩
            case' true =>
              have hr : rd (l.drop (j + 1)) (L.drop (at_ + 1)) { o with b := nv } = res := by rw [← HRD.out]; rfl
              have HR := Lib.hid hr
              clear hr
              go_wp2_with fail
              go_roundw
              case rel => exact ⟨j + 1, at_ + 1, _, by omega, by omega, by go_num, by go_num, R5.out, HR.out⟩
              case measure => simp [intOf]; omega
          · go_wp2_with fail
            refine (num_any s _ hsl).mono ?_
            rw [HNV.out, HNB.out]
            rintro e w3 ⟨rfl, hp3⟩
            have R3 := Lib.hid (R.out.keep hp3)
            have R5 := Lib.hid (R3.out.put (set_c R3.out.op nv))
            clear hp3 cs d0 d1 d2 d3 d4 d5 e0 e1 e2 e3 e4 e5 f0 g0
            have q0 := fun i hi => opC_cell R3.out.res rfl i hi
            obtain ⟨u0, e0⟩ := q0 0 (by omega)
            obtain ⟨u1, e1⟩ := q0 1 (by omega)
            obtain ⟨u2, e2⟩ := q0 2 (by omega)
            obtain ⟨u3, e3⟩ := q0 3 (by omega)
            obtain ⟨u4, e4⟩ := q0 4 (by omega)
            obtain ⟨u5, e5⟩ := q0 5 (by omega)
            have g0 := fun i => frozen_of_row _ w.heap.size i _ _ R3.out.res
            obtain ⟨d0, d1, d2, d3, d4, d5⟩ := op6 R3.out.op
            have f0 := fun i => op_fro R3.out.op i
            clear q0
            cases nb
            case' false =>
              have hr : res = (o, false) := by rw [← HRD.out]; rfl
              have HR := Lib.hid hr
              clear hr
              go_wp2_with fail
              refine bodyPost_ret (v := .tuple #[opV o, .bool false]) (by simp [results, Tryd.results18, go_sem, e0, e1, e2, e3, e4, e5]) rfl ⟨by rw [HR.out], R3.out.out _ _ _ _ _ _⟩
            case' true =>
              have hr : rd (l.drop (j + 1)) (L.drop (at_ + 1)) { o with c := nv } = res := by rw [← HRD.out]; rfl
              have HR := Lib.hid hr
              clear hr
              go_wp2_with fail
              go_roundw
              case rel => exact ⟨j + 1, at_ + 1, _, by omega, by omega, by go_num, by go_num, R5.out, HR.out⟩
              case measure => simp [intOf]; omega
          · go_wp2_with fail
            refine (num_any s _ hsl).mono ?_
            rw [HNV.out, HNB.out]
            rintro e w3 ⟨rfl, hp3⟩
            have R3 := Lib.hid (R.out.keep hp3)
            have R5 := Lib.hid (R3.out.put (set_n R3.out.op nv))
            clear hp3 cs d0 d1 d2 d3 d4 d5 e0 e1 e2 e3 e4 e5 f0 g0
            have q0 := fun i hi => opC_cell R3.out.res rfl i hi
            obtain ⟨u0, e0⟩ := q0 0 (by omega)
            obtain ⟨u1, e1⟩ := q0 1 (by omega)
            obtain ⟨u2, e2⟩ := q0 2 (by omega)
            obtain ⟨u3, e3⟩ := q0 3 (by omega)
            obtain ⟨u4, e4⟩ := q0 4 (by omega)
            obtain ⟨u5, e5⟩ := q0 5 (by omega)
            have g0 := fun i => frozen_of_row _ w.heap.size i _ _ R3.out.res
            obtain ⟨d0, d1, d2, d3, d4, d5⟩ := op6 R3.out.op
            have f0 := fun i => op_fro R3.out.op i
            clear q0
            cases nb
            case' false =>
              have hr : res = (o, false) := by rw [← HRD.out]; rfl
              have HR := Lib.hid hr
              clear hr
              go_wp2_with fail
              refine bodyPost_ret (v := .tuple #[opV o, .bool false]) (by simp [results, Tryd.results18, go_sem, e0, e1, e2, e3, e4, e5]) rfl ⟨by rw [HR.out], R3.out.out _ _ _ _ _ _⟩
            case' true =>
              have hr : rd (l.drop (j + 1)) (L.drop (at_ + 1)) { o with n := nv } = res := by rw [← HRD.out]; rfl
              have HR := Lib.hid hr
              clear hr
              go_wp2_with fail
              go_roundw
              case rel => exact ⟨j + 1, at_ + 1, _, by omega, by omega, by go_num, by go_num, R5.out, HR.out⟩
              case measure => simp [intOf]; omega
          · exact absurd rfl hw
    · obtain rfl : j = l.length := by omega
      rw [List.drop_length] at hrd
      simp only [rd] at hrd
      have hr : res = (o, decide (at_ = L.length)) := by
        rw [← hrd]
        congr 2
        simp only [eq_iff_iff, List.drop_eq_nil_iff]
        omega
      have HR := Lib.hid hr
      clear hrd hr
      by_cases hfin : at_ = L.length
      · have hd : decide (at_ = L.length) = true := decide_eq_true hfin
        rw [hd] at HR
        subst hfin
        go_wp2_with fail
        refine bodyPost_ret (v := .tuple #[opV o, .bool true]) (by simp [results, Tryd.results18, go_sem, e0, e1, e2, e3, e4, e5]) rfl ⟨by rw [HR.out], R.out.out _ _ _ _ _ _⟩
      · have hd : decide (at_ = L.length) = false := decide_eq_false hfin
        rw [hd] at HR
        have hne : ((at_ : Int) == (L.length : Int)) = false := by simp; omega
        go_wp2_with fail
        refine bodyPost_ret (v := .tuple #[opV o, .bool false]) (by simp [results, Tryd.results18, go_sem, e0, e1, e2, e3, e4, e5]) rfl ⟨by rw [HR.out], R.out.out _ _ _ _ _ _⟩

end Go.Proofs.YtelkimgcbkmdmaaDoor

