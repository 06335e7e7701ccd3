/-
  Chapter 19: the contract of op.Parse.
-/
import Derived.Test.YtelkimgcbkmdmaaDoorOq
namespace Go.Proofs.YtelkimgcbkmdmaaDoor
open Go.RowKit
open Go.ChangeMaps (setBlock)

/-- The slice v reads as the strings L; its row is block g. -/
def SlP (w : World) (g : Nat) (v : Value) (L : List (List UInt8)) : Prop := ∃ A c, v = .slice A L.length c ∧ L.length ≤ c ∧ c ≤ 1000 ∧ (0 < L.length → ∃ off, A = some ⟨g, off, none⟩ ∧ ∀ (j : Nat) x, L[j]? = some x → w.cell? ⟨g, off + j, none⟩ = some (.string (str x)))
theorem SlP.keep {w w' : World} {g : Nat} {v : Value} {L : List (List UInt8)} (h : SlP w g v L) (hb : w'.heap[g]? = w.heap[g]?) : SlP w' g v L := by
  obtain ⟨A, c, h1, h2, h3, h4⟩ := h
  refine ⟨A, c, h1, h2, h3, fun hp => ?_⟩
  obtain ⟨off, h5, h6⟩ := h4 hp
  exact ⟨off, h5, fun j x hx => by rw [← h6 j x hx]; simp only [World.cell?, hb]⟩

/-- While op.Parse works: its result in block w.heap.size, the tokens' row in block w.heap.size + 1, the operation in block X, the range in block r. -/
structure PaR (w : World) (X r : Nat) (nm : List UInt8) (j : Nat) (v : Value) (L : List (List UInt8)) (o : O19) (wr : World) : Prop where
  pu : Pure w wr
  res : wr.heap[w.heap.size]? = some (.cells (opC ⟨0, 0, 0, 0, 0, 0, 0⟩) 25 (0, 0))
  op : wr.heap[X]? = some (.cells (opC o) 25 (0, 0))
  it : wr.heap[r]? = some (.stringIter (str nm) j)
  xlo : w.heap.size + 1 < X
  rlo : X < r
  sl : SlP wr (w.heap.size + 1) v L

section
variable {w wr w' : World} {X r j : Nat} {nm : List UInt8} {v : Value} {L : List (List UInt8)} {o : O19}
theorem PaR.lt (h : PaR w X r nm j v L o wr) : w.heap.size + 1 < wr.heap.size := by
  have := (Array.getElem?_eq_some_iff.1 h.op).1
  have := h.xlo
  omega
theorem PaR.keep (h : PaR w X r nm j v L o wr) (k : Pure wr w') : PaR w X r nm j v L o w' := ⟨h.pu.then k, k.blk h.res, k.blk h.op, k.blk h.it, h.xlo, h.rlo, h.sl.keep (k.block _ h.lt (fun f => f))⟩
theorem PaR.next (h : PaR w X r nm j v L o wr) : PaR w X r nm (j + 1) v L o (setBlock wr r (.stringIter (str nm) (j + 1))) := by
  have hs := setBlock_only wr r (.stringIter (str nm) (j + 1))
  have hlt := (Array.getElem?_eq_some_iff.1 h.it).1
  have hr := h.rlo
  have hx := h.xlo
  exact ⟨h.pu.trans hs (fun k hk e => by omega), hs.blk h.res (by omega), hs.blk h.op (by omega), setBlock_get _ _ _ hlt, hx, hr, h.sl.keep (hs.block _ h.lt (by omega))⟩
theorem PaR.put {o' : O19} {i : Nat} {u : Value} (h : PaR w X r nm j v L o wr) (hs : (wr.setCell ⟨X, i, none⟩ u).heap[X]? = some (.cells (opC o') 25 (0, 0))) : PaR w X r nm j v L o' (wr.setCell ⟨X, i, none⟩ u) := by
  have ho : Only (fun k => k = X) wr (wr.setCell ⟨X, i, none⟩ u) := (Only.refl (fun k => k = X) wr).setCell (p := ⟨X, i, none⟩) (fun _ => rfl) _
  have hr := h.rlo
  have hx := h.xlo
  exact ⟨h.pu.trans ho (fun k hk e => by omega), ho.blk h.res (by omega), hs, ho.blk h.it (by omega), hx, hr, h.sl.keep (ho.block _ h.lt (by omega))⟩
theorem PaR.sls {v' : Value} {L' : List (List UInt8)} (h : PaR w X r nm j v L o wr) (hs : SlP wr (w.heap.size + 1) v' L') : PaR w X r nm j v' L' o wr := ⟨h.pu, h.res, h.op, h.it, h.xlo, h.rlo, hs⟩
end
theorem SlP.zero (w : World) (g : Nat) (A : Option Addr) (L : List (List UInt8)) (h : L.length = 0) : SlP w g (.slice A 0 0) L := ⟨A, 0, by rw [h], by omega, by omega, fun hp => by omega⟩
theorem sig_small {c : UInt8} (h : GSig c) : c.toNat < 128 := by
  rcases h with rfl | rfl | rfl | rfl | rfl | rfl | rfl <;> decide
theorem sig_off {c : UInt8} (h : GSig c) (hz : c ≠ 122) : ∃ i : Nat, 1 ≤ i ∧ i < 5 ∧ (((c.toNat : Int) = 97 ∧ i = 1) ∨ (((c.toNat : Int) = 98 ∨ (c.toNat : Int) = 107) ∧ i = 2) ∨ ((c.toNat : Int) = 99 ∧ i = 3) ∨ (((c.toNat : Int) = 110 ∨ (c.toNat : Int) = 103) ∧ i = 4)) ∧ ∀ (w : World) (X : Nat) (o : O19) (z : Int), w.heap[X]? = some (.cells (opC o) 25 (0, 0)) → (w.setCell ⟨X, i, none⟩ (.int .i64 z)).heap[X]? = some (.cells (opC (setF c z o)) 25 (0, 0)) := by
  rcases h with rfl | rfl | rfl | rfl | rfl | rfl | rfl
  · exact ⟨1, by omega, by omega, .inl ⟨rfl, rfl⟩, fun w X o z h => set_a h z⟩
  · exact ⟨2, by omega, by omega, .inr (.inl ⟨.inl rfl, rfl⟩), fun w X o z h => set_b h z⟩
  · exact ⟨2, by omega, by omega, .inr (.inl ⟨.inr rfl, rfl⟩), fun w X o z h => set_b h z⟩
  · exact ⟨3, by omega, by omega, .inr (.inr (.inl ⟨rfl, rfl⟩)), fun w X o z h => set_c h z⟩
  · exact ⟨4, by omega, by omega, .inr (.inr (.inr ⟨.inl rfl, rfl⟩)), fun w X o z h => set_n h z⟩
  · exact ⟨4, by omega, by omega, .inr (.inr (.inr ⟨.inr rfl, rfl⟩)), fun w X o z h => set_n h z⟩
  · exact absurd rfl hz
theorem SlP.at {w : World} {g off c : Nat} {L : List (List UInt8)} {A : Nat} (h : SlP w g (.slice (some ⟨g, off, none⟩) A c) L) (i : Nat) (x : List UInt8) (hx : L[i]? = some x) : w.cell? ⟨g, off + i, none⟩ = some (.string (str x)) := by
  obtain ⟨A', c', h1, h2, h3, h4⟩ := h
  injection h1 with h1 h5 h6
  have hp : 0 < L.length := by have := (List.getElem?_eq_some_iff.1 hx).1; omega
  obtain ⟨off', h7, h8⟩ := h4 hp
  rw [h7] at h1
  injection h1 with h1
  injection h1 with h1 h9
  rw [h9]
  exact h8 i x hx
theorem SlP.drop1 {w : World} {g off c A : Nat} {t : List UInt8} {L : List (List UInt8)} (h : SlP w g (.slice (some ⟨g, off, none⟩) A c) (t :: L)) (hc : L.length ≤ c - 1) (hc2 : c ≤ 1000) : SlP w g (.slice (some ⟨g, off + 1, none⟩) L.length (c - 1)) L :=
  ⟨_, _, rfl, hc, by omega, fun _ => ⟨off + 1, rfl, fun i x hx => by rw [Nat.add_assoc, Nat.add_comm 1 i]; exact h.at (i + 1) x (by simpa using hx)⟩⟩
theorem SlP.drop2 {w : World} {g off c A : Nat} {t u : List UInt8} {L : List (List UInt8)} (h : SlP w g (.slice (some ⟨g, off, none⟩) A c) (t :: u :: L)) (hc : L.length ≤ c - 2) (hc2 : c ≤ 1000) : SlP w g (.slice (some ⟨g, off + 2, none⟩) L.length (c - 2)) L :=
  ⟨_, _, rfl, hc, by omega, fun _ => ⟨off + 2, rfl, fun i x hx => by rw [Nat.add_assoc, Nat.add_comm 2 i]; exact h.at (i + 2) x (by simpa using hx)⟩⟩
theorem fl_ok (c : UInt8) (o : O19) (h : o.Ok) : -9223372036854775808 ≤ fl c o ∧ fl c o ≤ 9223372036854775807 := by
  unfold fl
  split
  · exact h.a
  · split
    · exact h.b
    · split
      · exact h.c
      · exact h.n
/-- What is behind a sign that is a number. -/
theorem rel_one {k j : Nat} {c' : UInt8} {t : List UInt8} {L L'' : List (List UInt8)} {o : O19} {v : Int} (h122 : c' ≠ 122) (hcan : ∀ x : Int, -9223372036854775808 ≤ x → x ≤ 9223372036854775807 → t = Lib.itoa x → v = x)
    (h : ∀ o' : O19, o'.Ok → o'.kind = k → L = toks o' (kn k) → t :: L'' = tk o' c' ++ toks o' ((kn k).drop (j + 1)) ∧ o = part o' ((kn k).take j) ∧ part o' ((kn k).take (j + 1)) = (if c' = 122 then { o with x := partB o'.x, y := partB o'.y } else setF c' (fl c' o') o)) :
    ∀ o' : O19, o'.Ok → o'.kind = k → L = toks o' (kn k) → L'' = toks o' ((kn k).drop (j + 1)) ∧ setF c' v o = part o' ((kn k).take (j + 1)) := by
  intro o' h1 h2 h3
  obtain ⟨h4, -, h5⟩ := h o' h1 h2 h3
  rw [if_neg h122] at h5
  rw [tk, if_neg h122] at h4
  injection h4 with h4 h6
  have hf := fl_ok c' o' h1
  exact ⟨h6, by rw [h5, hcan _ hf.1 hf.2 h4]⟩
theorem rel_two {k j : Nat} {t u : List UInt8} {L L'' : List (List UInt8)} {o : O19} {x y : Nat} (hx : ∀ n : Nat, n < 18446744073709551616 → t = hexL n → x = n) (hy : ∀ n : Nat, n < 18446744073709551616 → u = hexL n → y = n)
    (h : ∀ o' : O19, o'.Ok → o'.kind = k → L = toks o' (kn k) → t :: u :: L'' = tk o' 122 ++ toks o' ((kn k).drop (j + 1)) ∧ o = part o' ((kn k).take j) ∧ part o' ((kn k).take (j + 1)) = (if (122 : UInt8) = 122 then { o with x := partB o'.x, y := partB o'.y } else setF 122 (fl 122 o') o)) :
    ∀ o' : O19, o'.Ok → o'.kind = k → L = toks o' (kn k) → L'' = toks o' ((kn k).drop (j + 1)) ∧ ({ o with x := x, y := y } : O19) = part o' ((kn k).take (j + 1)) := by
  intro o' h1 h2 h3
  obtain ⟨h4, -, h5⟩ := h o' h1 h2 h3
  rw [if_pos rfl] at h5
  rw [tk, if_pos rfl] at h4
  injection h4 with h4 h6
  injection h6 with h6 h7
  exact ⟨h7, by rw [h5, hx _ (partB_lt _ h1.x) h4, hy _ (partB_lt _ h1.y) h6]⟩
set_option maxRecDepth 100000 in
set_option maxHeartbeats 16000000 in
theorem oparse_any (s : List UInt8) (w : World) (hs : s.length ≤ 500) (he : Env w) : Calls Tryd.prog 5 #[.string (str s)] w fun e w' => e = .returned (resV (parseR s)) ∧ Pure w w' := by
  obtain ⟨x, L, hL⟩ : ∃ x L, spl s = x :: L := by
    cases h : spl s with
    | nil => exact absurd h (spl_ne s)
    | cons x L => exact ⟨x, L, rfl⟩
  obtain ⟨hsh1, hsh2⟩ := spl_short s
  rw [hL] at hsh1 hsh2
  have HL := Lib.hid hL
  have hLl : L.length ≤ 500 := by simp at hsh1; omega
  have HX := Lib.hid (fun y (h : y ∈ L) => Nat.le_trans (hsh2 y (by simp [h])) hs)
  have HE := Lib.hid he
  have hres := heap_alloc_new w (.cells #[.int .i64 0, .int .i64 0, .int .i64 0, .int .i64 0, .int .i64 0, .complex .f64 0 0] 25)
  have P0 := Lib.hid ((Only.refl (fun _ => False) w).alloc (.cells #[.int .i64 0, .int .i64 0, .int .i64 0, .int .i64 0, .int .i64 0, .complex .f64 0 0] 25))
  have HRES := Lib.hid hres
  clear hL hsh1 hsh2 he hres
  go_enter Tryd.func5, Tryd.ntmps5
  go_wp2_with fail
  have hsz0 : (w.alloc (.cells #[.int .i64 0, .int .i64 0, .int .i64 0, .int .i64 0, .int .i64 0, .complex .f64 0 0] 25)).heap.size = w.heap.size + 1 := by simp
  refine (strings_split s _ (by omega) (HE.out.pure P0.out)).mono ?_
  rw [HL.out, hsz0]
  rintro e w1 ⟨rfl, hp1, hown⟩
  have hx0 : w1.cell? ⟨w.heap.size + 1, 0, none⟩ = some (.string (str x)) := by rw [hown.cellAt 0 (by simp)]; rfl
  have P1 := Lib.hid (Pure.then P0.out hp1)
  have RES1 := Lib.hid (hp1.blk HRES.out)
  have HOWN := Lib.hid hown
  clear hp1 hown hsz0
  go_wp2_with fail
  refine (of_any x _).mono ?_
  rintro e w2 ⟨rfl, hp2⟩
  have P2 := Lib.hid (P1.out.then hp2)
  have RES2 := Lib.hid (hp2.blk RES1.out)
  have OWN2 := Lib.hid (hp2.own HOWN.out (fun _ _ f => f))
  clear hp2 hx0
  obtain ⟨k, hk⟩ : ∃ k, ofK x = k := ⟨_, rfl⟩
  rw [hk]
  have hk19 : k < 19 := by rw [← hk]; exact ofK_lt x
  have HK := Lib.hid hk
  clear hk
  have hX1 : w.heap.size + 1 < w2.heap.size := (OWN2.out.lt _ rfl).2
  have OP3 := Lib.hid (heap_alloc_new w2 (.cells (opC ⟨k, 0, 0, 0, 0, 0, 0⟩) 25))
  have P3 := Lib.hid (P2.out.then ((Only.refl (fun _ => False) w2).alloc (.cells (opC ⟨k, 0, 0, 0, 0, 0, 0⟩) 25)))
  have RES3 := Lib.hid (Pure.blk ((Only.refl (fun _ => False) w2).alloc (.cells (opC ⟨k, 0, 0, 0, 0, 0, 0⟩) 25)) RES2.out)
  have OWN3 := Lib.hid (World.ownsRow.alloc OWN2.out (.cells (opC ⟨k, 0, 0, 0, 0, 0, 0⟩) 25))
  go_wp2_with fail
  refine (words_l k hk19 _).mono ?_
  rintro e w4 ⟨rfl, hp4⟩
  have P4 := Lib.hid (P3.out.then hp4)
  have RES4 := Lib.hid (Pure.blk hp4 RES3.out)
  have OP4 := Lib.hid (Pure.blk hp4 OP3.out)
  have OWN4 := Lib.hid (hp4.own OWN3.out (fun _ _ f => f))
  clear hp4 OWN3 RES3 OP3 P3 OWN2 RES2 P2
  generalize w2.heap.size = X at *
  have hst : ∀ v, SlP w4 (w.heap.size + 1) v L → PaR w X w4.heap.size (kn k) 0 v L ⟨k, 0, 0, 0, 0, 0, 0⟩ (w4.iter (str (kn k)) 0) := fun v hv => by
    have q : Pure w4 (w4.iter (str (kn k)) 0) := (Only.refl _ _).alloc _
    have hg := (OWN4.out.lt _ rfl).2
    exact ⟨P4.out.then q, q.blk RES4.out, q.blk OP4.out, World.iter_heap _ _ _, hX1, (Array.getElem?_eq_some_iff.1 OP4.out).1, hv.keep (q.block _ hg (fun f => f))⟩
  have HST := Lib.hid hst
  clear hst
  by_cases hL0 : L.length = 0
  case' pos =>
    have hsl : SlP w4 (w.heap.size + 1) (.slice (some ⟨w.heap.size + 1, 0, none⟩) 0 0) L := SlP.zero _ _ _ _ hL0
  case' neg =>
    have hsl : SlP w4 (w.heap.size + 1) (.slice (some ⟨w.heap.size + 1, 1, none⟩) L.length L.length) L := ⟨_, _, rfl, Nat.le_refl _, by omega, fun _ => ⟨1, rfl, fun j x hx => by
      have hjl : j < L.length := (List.getElem?_eq_some_iff.1 hx).1
      rw [OWN4.out.cellAt (1 + j) (by simp only [List.length_cons]; omega), show 1 + j = j + 1 from by omega]
      simp [strs, hx]⟩⟩
  all_goals
    have R0 := Lib.hid (HST.out _ hsl)
    clear hsl HST
    go_wp2_with fail
    generalize w4.iter (str (kn k)) 0 = w5 at *
    generalize w4.heap.size = r at *
    clear P0 HRES P1 RES1 HOWN P4 RES4 OP4 OWN4 hX1
    have hkl := kn_len k hk19
    go_loopg [4] ((kn k).length) (fun g v wr => ∃ (j : Nat) (L' : List (List UInt8)) (o : O19), j ≤ (kn k).length ∧ g = (kn k).length - j ∧ PaR w X r (kn k) j v L' o wr ∧ o.Ok ∧ o.kind = k ∧ L'.length ≤ 500 ∧ (∀ x ∈ L', x.length ≤ 500) ∧ ∀ o' : O19, o'.Ok → o'.kind = k → L = toks o' (kn k) → L' = toks o' ((kn k).drop j) ∧ o = part o' ((kn k).take j))
    case atStart => exact ⟨0, L, _, Nat.zero_le _, rfl, R0.out, ⟨hk19, by simp, by simp, by simp, by simp, by simp, by simp⟩, rfl, hLl, HX.out, fun o' _ hk' hL' => ⟨hL', by rw [← hk']; rfl⟩⟩
    case round =>
      clear R0
      obtain ⟨j, L', o, hj, rfl, hpr, hok, hkind, hl', hx', hrel2⟩ := hrel
      have R := Lib.hid hpr
      have RN := Lib.hid hpr.next
      have HOK := Lib.hid hok
      have HX' := Lib.hid hx'
      have HREL := Lib.hid hrel2
      obtain ⟨A, c, rfl, hcap, hc1000, hcells⟩ := hpr.next.sl
      have HC := Lib.hid hcells
      clear hpr hok hx' hrel2 hcells
      by_cases hlt : j < (kn k).length
      · obtain ⟨c', hb⟩ : ∃ c', (kn k)[j]? = some c' := ⟨_, List.getElem?_eq_getElem hlt⟩
        have hat : (str (kn k))[j]'(by rw [str_size]; exact hlt) = c' := str_at (kn k) j c' hb _
        have hdl : (kn k).drop j = c' :: (kn k).drop (j + 1) := by
          rw [List.drop_eq_getElem_cons hlt]
          rw [List.getElem?_eq_getElem hlt] at hb
          injection hb with hb
          rw [hb]
        have htk : (kn k).take (j + 1) = (kn k).take j ++ [c'] := by rw [List.take_add_one, hb]; rfl
        have HREL2 : Hid (∀ o' : O19, o'.Ok → o'.kind = k → L = toks o' (kn k) → L' = tk o' c' ++ toks o' ((kn k).drop (j + 1)) ∧ o = part o' ((kn k).take j) ∧ part o' ((kn k).take (j + 1)) = (if c' = 122 then { o with x := partB o'.x, y := partB o'.y } else setF c' (fl c' o') o)) := Lib.hid fun o' h1 h2 h3 => by
          obtain ⟨h4, h5⟩ := HREL.out o' h1 h2 h3
          rw [hdl] at h4
          refine ⟨by rw [h4]; simp [toks], h5, ?_⟩
          rw [htk, part, List.foldl_append, List.foldl_cons, List.foldl_nil]
          rw [h5]; rfl
        have hsig := kn_sig k hk19 c' (List.mem_of_getElem? hb)
        clear hb hdl htk
        obtain ⟨d0, d1, d2, d3, d4, d5⟩ := op6 RN.out.op
        have f0 := fun i => op_fro RN.out.op i
        have h128 : c'.toNat < 128 := sig_small hsig
        have hnx := fun ty => next_str (P := Tryd.prog) ty R.out.it (by rw [str_size]; exact hlt) (by rw [hat]; exact h128)
        rw [hat] at hnx
        obtain ⟨ci, hci⟩ : ∃ ci : Int, (c'.toNat : Int) = ci := ⟨_, rfl⟩
        rw [hci] at hnx
        have hshort : L'.length < (tk ⟨0, 0, 0, 0, 0, 0, 0⟩ c').length → parseR s = none := fun hsh => by
          cases hq : parseR s with
          | none => rfl
          | some o' =>
            obtain ⟨h1, h2, h3, h4⟩ := parse_some s o' hq
            have h5 := spl_print o' h1.k
            rw [h3, HL.out] at h5
            injection h5 with h6 h5
            have hk' : o'.kind = k := by rw [← HK.out, h6]; exact (ofK_kw _ h2 h1.k).symm
            rw [hk'] at h5
            have h7 := congrArg List.length (HREL2.out o' h1 hk' h5).1
            have h8 : (tk o' c').length = (tk ⟨0, 0, 0, 0, 0, 0, 0⟩ c').length := by unfold tk; split <;> rfl
            rw [List.length_append, h8] at h7
            omega
        have HSH := Lib.hid hshort
        have g0 := fun i => frozen_of_row _ w.heap.size i _ _ RN.out.res
        have q0 := fun i hi => opC_cell RN.out.res rfl i hi
        obtain ⟨u0, e0⟩ := q0 0 (by omega)
        obtain ⟨u1, e1⟩ := q0 1 (by omega)
        obtain ⟨u2, e2⟩ := q0 2 (by omega)
        obtain ⟨u3, e3⟩ := q0 3 (by omega)
        obtain ⟨u4, e4⟩ := q0 4 (by omega)
        obtain ⟨u5, e5⟩ := q0 5 (by omega)
        clear q0 hshort d0 d1 d2 d3 d4 d5 f0
        cases L' with
        | nil =>
          have hp : parseR s = none := HSH.out (by unfold tk; split <;> simp)
          have HP := Lib.hid hp
          clear hp
          go_wp2_with fail
          refine bodyPost_ret (v := resV none) (by simp [results, Tryd.results5, go_sem, resV, e0, e1, e2, e3, e4, e5]) rfl ⟨by rw [HP.out], ?_⟩
          exact six RN.out.pu _ _ _ _ _ _
        | cons t L'' =>
          obtain ⟨off, rfl, hcell⟩ := HC.out (by simp)
          have ht0 : (setBlock wr r (.stringIter (str (kn k)) (j + 1))).cell? ⟨w.heap.size + 1, off, none⟩ = some (.string (str t)) := hcell 0 t rfl
          have htl := HX'.out t (by simp)
          have HCL := Lib.hid hcell
          clear hcell
          simp only [List.length_cons] at hcap hl'
          by_cases h122 : c' = 122
          · subst h122
            obtain rfl : ci = 122 := by rw [← hci]; rfl
            cases L'' with
            | nil =>
              have hp : parseR s = none := HSH.out (by simp [tk])
              have HP := Lib.hid hp
              clear hp
              go_wp2_with fail
              refine bodyPost_ret (v := resV none) (by simp [results, Tryd.results5, go_sem, resV, e0, e1, e2, e3, e4, e5]) rfl ⟨by rw [HP.out], ?_⟩
              exact six RN.out.pu _ _ _ _ _ _
            | cons t2 L3 =>
              have ht1 : (setBlock wr r (.stringIter (str (kn k)) (j + 1))).cell? ⟨w.heap.size + 1, off + 1, none⟩ = some (.string (str t2)) := HCL.out 1 t2 rfl
              have htl2 := HX'.out t2 (by simp)
              simp only [List.length_cons] at hcap hl'
              go_wp2_with fail
              refine (uint_any t _ (by omega) (HE.out.pure RN.out.pu)).mono ?_
              rintro e w6 ⟨nx, er, rfl, hxl, hxc, hp6⟩
              have R6 := Lib.hid (RN.out.keep hp6)
              have ht2 := hp6.keep ht1
              have HXL := Lib.hid hxl
              have HXC := Lib.hid hxc
              have hfx := frombits_run nx
              clear hxl hxc hp6 ht1 ht0 hnx g0 e0 e1 e2 e3 e4 e5 HC
              go_wp2_with fail
              refine (uint_any t2 _ (by omega) (HE.out.pure R6.out.pu)).mono ?_
              rintro e w7 ⟨ny, er2, rfl, hyl, hyc, hp7⟩
              have R7 := Lib.hid (R6.out.keep hp7)
              have HYL := Lib.hid hyl
              have HYC := Lib.hid hyc
              have hfy := frombits_run ny
              have fX := op_fro R7.out.op 5
              obtain ⟨z0, dX⟩ := opC_cell R7.out.op rfl 5 (by omega)
              have R8 := Lib.hid (R7.out.put (set_z R7.out.op nx ny))
              clear hyl hyc hp7 ht2
              by_cases hc1 : c = 2
              · subst hc1
                have hn0 : L3.length = 0 := by omega
                go_wp2_with fail
                go_roundg ((kn k).length - (j + 1))
                case measure => omega
                case rel => exact ⟨j + 1, L3, _, by omega, rfl, R8.out.sls (SlP.zero _ _ _ _ hn0), ⟨HOK.out.k, HOK.out.a, HOK.out.b, HOK.out.c, HOK.out.n, HXL.out, HYL.out⟩, hkind, by omega, fun y hy => HX'.out y (by simp [hy]), rel_two HXC.out HYC.out HREL2.out⟩
              · have hc2 : 2 < c := by omega
                go_wp2_with fail
                go_roundg ((kn k).length - (j + 1))
                case measure => omega
                case rel => exact ⟨j + 1, L3, _, by omega, rfl, R8.out.sls (R8.out.sl.drop2 (by omega) hc1000), ⟨HOK.out.k, HOK.out.a, HOK.out.b, HOK.out.c, HOK.out.n, HXL.out, HYL.out⟩, hkind, by omega, fun y hy => HX'.out y (by simp [hy]), rel_two HXC.out HYC.out HREL2.out⟩
          · have hne : (ci != 122) = true := by rw [bne_iff_ne, ← hci]; intro e; exact h122 (UInt8.toNat_inj.1 (show c'.toNat = 122 by omega))
            obtain ⟨i, hi1, hi5, hfi, hset⟩ := sig_off hsig h122
            rw [hci] at hfi
            have HFI := Lib.hid hfi
            have HSET := Lib.hid hset
            obtain ⟨z0, dX⟩ := opC_cell RN.out.op rfl i (by omega)
            have fX := op_fro RN.out.op i
            clear hfi hset
            go_wp2_with fail
            go_region_with (first | (go_at_call 13; refine (field_any X ci i _ HFI.out).mono ?_; rintro e w3 ⟨rfl, rfl⟩) | (go_at_call 12; refine (atoi_any t _ (by omega) (HE.out.pure (RN.out.pu.then ((Only.refl _ _).drewN 1)))).mono ?_; rintro e w7 ⟨v, er, rfl, hv, hcan, hp7⟩; have R7 := Lib.hid (RN.out.keep (Pure.then ((Only.refl _ _).drewN 1) hp7)); obtain ⟨z7, dX7⟩ := opC_cell R7.out.op rfl i (by omega); have fX7 := op_fro R7.out.op i; have HV := Lib.hid hv; have HCAN := Lib.hid hcan; clear hv hcan hp7))
            all_goals
              have R8 := Lib.hid (R7.out.put (HSET.out _ X o v R7.out.op))
              clear dX7 fX7 g0 e0 e1 e2 e3 e4 e5 ht0 hnx dX fX HC
            all_goals
              by_cases hc1 : c = 1
              · subst hc1
                have hn0 : L''.length = 0 := by omega
                go_wp2_with fail
                go_roundg ((kn k).length - (j + 1))
                case measure => omega
                case rel => exact ⟨j + 1, L'', _, by omega, rfl, R8.out.sls (SlP.zero _ _ _ _ hn0), setF_ok _ _ _ HOK.out HV.out, (setF_kind _ _ _).trans hkind, by omega, fun y hy => HX'.out y (by simp [hy]), rel_one h122 HCAN.out HREL2.out⟩
              · have hc2 : 1 < c := by omega
                go_wp2_with fail
                go_roundg ((kn k).length - (j + 1))
                case measure => omega
                case rel => exact ⟨j + 1, L'', _, by omega, rfl, R8.out.sls (R8.out.sl.drop1 (by omega) hc1000), setF_ok _ _ _ HOK.out HV.out, (setF_kind _ _ _).trans hkind, by omega, fun y hy => HX'.out y (by simp [hy]), rel_one h122 HCAN.out HREL2.out⟩
      · obtain rfl : j = (kn k).length := by omega
        have hnx := fun ty => next_str_end (P := Tryd.prog) ty R.out.it (by rw [str_size]; omega)
        obtain ⟨d0, d1, d2, d3, d4, d5⟩ := op6 R.out.op
        have g0 := fun i => frozen_of_row wr w.heap.size i _ _ R.out.res
        have q0 := fun i hi => opC_cell R.out.res rfl i hi
        obtain ⟨u0, e0⟩ := q0 0 (by omega)
        obtain ⟨u1, e1⟩ := q0 1 (by omega)
        obtain ⟨u2, e2⟩ := q0 2 (by omega)
        obtain ⟨u3, e3⟩ := q0 3 (by omega)
        obtain ⟨u4, e4⟩ := q0 4 (by omega)
        obtain ⟨u5, e5⟩ := q0 5 (by omega)
        clear q0
        by_cases hk0 : k = 0
        · have hp : parseR s = none := parseR_none HL.out (by rw [HK.out]; exact hk0)
          have HP := Lib.hid hp
          clear hp
          go_wp2_with fail
          refine bodyPost_ret (v := resV none) (by simp [results, Tryd.results5, go_sem, resV, e0, e1, e2, e3, e4, e5]) rfl ⟨by rw [HP.out], ?_⟩
          exact six R.out.pu _ _ _ _ _ _
        · have hpo := fun W he => oprint_any o W HOK.out he
          rw [show opV o = .agg #[.int .i64 (k : Int), .int .i64 o.a, .int .i64 o.b, .int .i64 o.c, .int .i64 o.n, .complex .f64 o.x o.y] from by rw [← hkind]] at hpo
          have HPO := Lib.hid hpo
          have HKI := Lib.hid hkind
          clear hpo
          go_wp2_with fail
          refine (HPO.out _ (HE.out.pure R.out.pu)).mono ?_
          rintro e w6 ⟨rfl, hp6⟩
          clear hnx d0 d1 d2 d3 d4 d5 e0 e1 e2 e3 e4 e5 g0
          have R6 := Lib.hid (R.out.keep hp6)
          clear hp6
          obtain ⟨d0, d1, d2, d3, d4, d5⟩ := op6 R6.out.op
          have g0 := fun i => frozen_of_row w6 w.heap.size i _ _ R6.out.res
          have q0 := fun i hi => opC_cell R6.out.res rfl i hi
          obtain ⟨u0, e0⟩ := q0 0 (by omega)
          obtain ⟨u1, e1⟩ := q0 1 (by omega)
          obtain ⟨u2, e2⟩ := q0 2 (by omega)
          obtain ⟨u3, e3⟩ := q0 3 (by omega)
          obtain ⟨u4, e4⟩ := q0 4 (by omega)
          obtain ⟨u5, e5⟩ := q0 5 (by omega)
          clear q0
          by_cases hps : printL o = s
          · have hb : ((str (printL o)).toList == (str s).toList) = true := by rw [str_toList, str_toList]; simp [hps]
            have hb2 : ((str (printL o)).toList != (str s).toList) = false := by rw [str_toList, str_toList]; simp [hps]
            have hp : parseR s = some o := by
              have h0 : 0 < o.kind := by have := HKI.out; omega
              have h1 := parse_of o HOK.out h0
              have h2 := spl_print o HOK.out.k
              rw [hps] at h1 h2
              rw [HL.out, HKI.out] at h2
              injection h2 with _ h2
              have h3 := (HREL.out o HOK.out HKI.out h2).2
              rw [List.take_length] at h3
              rw [h1, HKI.out, ← h3]
            have HP := Lib.hid hp
            clear hp hps
            go_wp2_with fail
            refine bodyPost_ret (v := resV (some o)) (by simp [results, Tryd.results5, go_sem, resV, HKI.out, e0, e1, e2, e3, e4, e5]) rfl ⟨by rw [HP.out], ?_⟩
            exact six R6.out.pu _ _ _ _ _ _
          · have hb : ((str (printL o)).toList == (str s).toList) = false := by rw [str_toList, str_toList]; simp [hps]
            have hb2 : ((str (printL o)).toList != (str s).toList) = true := by rw [str_toList, str_toList]; simp [hps]
            have hp : parseR s = none := by
              cases hq : parseR s with
              | none => rfl
              | some o' =>
                obtain ⟨h1, h2, h3, h4⟩ := parse_some s o' hq
                have h5 := spl_print o' h1.k
                rw [h3, HL.out] at h5
                injection h5 with h6 h5
                have hk' : o'.kind = k := by rw [← HK.out, h6]; exact (ofK_kw _ h2 h1.k).symm
                rw [hk'] at h5 h4
                have h7 := (HREL.out o' h1 hk' h5).2
                rw [List.take_length, h4] at h7
                exact absurd (h7 ▸ h3) hps
            have HP := Lib.hid hp
            clear hp hps
            go_wp2_with fail
            refine bodyPost_ret (v := resV none) (by simp [results, Tryd.results5, go_sem, resV, e0, e1, e2, e3, e4, e5]) rfl ⟨by rw [HP.out], ?_⟩
            exact six R6.out.pu _ _ _ _ _ _

end Go.Proofs.YtelkimgcbkmdmaaDoor
