/-
  Chapter 19: the contract of op.Print.
-/
import Derived.Test.YtelkimgcbkmdmaaDoorOk
import Derived.Deep.LoopGhost
import Derived.Laws.OwnMore
namespace Go.Proofs.YtelkimgcbkmdmaaDoor
open Go.RowKit
open Go.ChangeMaps (setBlock)

section
variable {P : Program}
theorem next_str {w : World} {r pos : Nat} {s : ByteArray} (ty : TypeId) (hr : w.heap[r]? = some (.stringIter s pos)) (h : pos < s.size) (ha : (s[pos]'h).toNat < 128) :
    (Instr.next (.pointer (some ⟨r, 0, none⟩)) true ty).run P w = .ok (.tuple #[.bool true, .int .i64 pos, .int .i32 (s[pos]'h).toNat]) (setBlock w r (.stringIter s (pos + 1))) := by
  simp only [Instr.next, getObj, setObj, Sem.run_bind, Sem.run, hr, Result.andThen, h, if_true, decode_ascii s pos h ha]
  simp [goInt, setBlock]
theorem next_str_end {w : World} {r pos : Nat} {s : ByteArray} (ty : TypeId) (hr : w.heap[r]? = some (.stringIter s pos)) (h : ¬ pos < s.size) :
    (Instr.next (.pointer (some ⟨r, 0, none⟩)) true ty).run P w = .ok (.tuple #[.bool false]) w := by
  simp [Instr.next, getObj, Sem.run, hr, h]
end
theorem setBlock_only (w : World) (b : Nat) (o : Obj) : Only (fun k => k = b) w (setBlock w b o) := by
  refine ⟨rfl, rfl, rfl, by simp [setBlock], fun k hk hn => ?_⟩
  simp only [setBlock]
  rw [Array.getElem?_setIfInBounds_ne (fun e => hn e.symm)]
theorem setBlock_get (w : World) (b : Nat) (o : Obj) (h : b < w.heap.size) : (setBlock w b o).heap[b]? = some o := by simp [setBlock, h]
theorem own_ne {w : World} {B : Nat} {e : TypeId} {n r : Nat} {v : Value} {xs : List Value} {o : Obj} (h : w.ownsRow B e 1 v n xs) (hr : w.heap[r]? = some o) (ho : ∀ cs fz, o ≠ .cells cs e fz) : v.ownBlock ≠ some r := fun q => by
  rcases h.2 with ⟨h0, -⟩ | ⟨g', cap', cur, hv, -, hh, -⟩
  · subst h0; simp [Value.ownBlock] at q
  · subst hv
    simp [Value.ownBlock] at q
    rw [← q, hh] at hr; injection hr with hr
    exact ho _ _ hr.symm

/-- While Print works: the operation in block w.heap.size, the range over the signs in block r, what is printed so far. -/
structure PrR (w : World) (o : O19) (r : Nat) (nm : List UInt8) (j : Nat) (v : Value) (acc : List (List UInt8)) (wr : World) : Prop where
  pu : Pure w wr
  op : wr.heap[w.heap.size]? = some (.cells (opC o) 25 (0, 0))
  it : wr.heap[r]? = some (.stringIter (str nm) j)
  rlo : w.heap.size < r
  own : wr.ownsRow w.heap.size 9 1 v acc.length (strs acc)
section
variable {w wr w' : World} {o : O19} {r j : Nat} {nm : List UInt8} {v : Value} {acc : List (List UInt8)}
theorem PrR.keep (h : PrR w o r nm j v acc wr) (k : Pure wr w') : PrR w o r nm j v acc w' := ⟨h.pu.then k, k.blk h.op, k.blk h.it, h.rlo, k.own h.own (fun _ _ f => f)⟩
theorem PrR.next (h : PrR w o r nm j v acc wr) : PrR w o r nm (j + 1) v acc (setBlock wr r (.stringIter (str nm) (j + 1))) := by
  have hs := setBlock_only wr r (.stringIter (str nm) (j + 1))
  have hlt := (Array.getElem?_eq_some_iff.1 h.it).1
  have hr := h.rlo
  exact ⟨h.pu.trans hs (fun k hk e => by omega), hs.blk h.op (by omega), setBlock_get _ _ _ hlt, hr, hs.own h.own (fun k hk e => by subst e; exact own_ne h.own h.it (by simp) hk)⟩
theorem PrR.grow (h : PrR w o r nm j v acc wr) {v' : Value} {ob : Obj} {acc' : List (List UInt8)} (hown : w'.ownsRow w.heap.size 9 1 v' acc'.length (strs acc')) (hg : (wr.alloc ob).grownBy w' v.ownBlock) : PrR w o r nm j v' acc' w' := by
  have ho : Only (fun q => v.ownBlock = some q) wr w' := ((Only.refl _ wr).alloc ob).grown hg (fun _ _ e => e)
  have h1 : v.ownBlock ≠ some w.heap.size := own_ne h.own h.op (by simp)
  exact ⟨h.pu.trans ho (fun k hk e => by have := (h.own.lt k e).1; omega), ho.blk h.op h1, ho.blk h.it (own_ne h.own h.it (by simp)), h.rlo, hown⟩
end
/-- The program's signs. -/
def GSig (c : UInt8) : Prop := c = 97 ∨ c = 98 ∨ c = 107 ∨ c = 99 ∨ c = 110 ∨ c = 103 ∨ c = 122
theorem kn_sig (k : Nat) (h : k < 19) : ∀ c ∈ kn k, GSig c := by
  rcases (by omega : k = 0 ∨ k = 1 ∨ k = 2 ∨ k = 3 ∨ k = 4 ∨ k = 5 ∨ k = 6 ∨ k = 7 ∨ k = 8 ∨ k = 9 ∨ k = 10 ∨ k = 11 ∨ k = 12 ∨ k = 13 ∨ k = 14 ∨ k = 15 ∨ k = 16 ∨ k = 17 ∨ k = 18) with rfl | rfl | rfl | rfl | rfl | rfl | rfl | rfl | rfl | rfl | rfl | rfl | rfl | rfl | rfl | rfl | rfl | rfl | rfl <;> simp [kn, knL, GSig]
theorem kn_len (k : Nat) (h : k < 19) : (kn k).length ≤ 3 := by
  rcases (by omega : k = 0 ∨ k = 1 ∨ k = 2 ∨ k = 3 ∨ k = 4 ∨ k = 5 ∨ k = 6 ∨ k = 7 ∨ k = 8 ∨ k = 9 ∨ k = 10 ∨ k = 11 ∨ k = 12 ∨ k = 13 ∨ k = 14 ∨ k = 15 ∨ k = 16 ∨ k = 17 ∨ k = 18) with rfl | rfl | rfl | rfl | rfl | rfl | rfl | rfl | rfl | rfl | rfl | rfl | rfl | rfl | rfl | rfl | rfl | rfl | rfl <;> simp [kn, knL]
theorem toks_next (o : O19) (l : List UInt8) (k : Nat) (c : UInt8) (h : l[k]? = some c) : toks o (l.take (k + 1)) = toks o (l.take k) ++ tk o c := by
  simp [toks, List.take_add_one, h]

theorem tk_len (o : O19) (ho : o.Ok) (c : UInt8) : (behind (tk o c)).length ≤ 34 := by
  have hf : -9223372036854775808 ≤ fl c o ∧ fl c o ≤ 9223372036854775807 := by
    unfold fl
    split
    · exact ho.a
    · split
      · exact ho.b
      · split
        · exact ho.c
        · exact ho.n
  have := itoa_short (fl c o) hf.1 hf.2
  unfold tk
  split
  · simp [behind, hexL_len]
  · simp [behind]; omega
theorem toks_len (o : O19) (ho : o.Ok) (l : List UInt8) : (behind (toks o l)).length ≤ 34 * l.length := by
  induction l with
  | nil => simp [toks, behind]
  | cons c l ih =>
    have h1 := tk_len o ho c
    have h2 : behind (toks o (c :: l)) = behind (tk o c) ++ behind (toks o l) := by simp [toks, behind]
    rw [h2, List.length_append, List.length_cons]
    omega
theorem printL_len (o : O19) (ho : o.Ok) : (printL o).length ≤ 200 := by
  have h1 := toks_len o ho (kn o.kind)
  have h2 := kn_len o.kind ho.k
  have h3 := (rn_len o.kind ho.k).2
  rw [printL, List.length_append]
  omega
theorem strings_join (B : Nat) (acc : List (List UInt8)) (A : Option Addr) (ca : Nat) (w : World) (h : w.ownsRow B 9 1 (.slice A acc.length ca) acc.length (strs acc)) (h0 : 0 < acc.length) (hN : acc.length ≤ 100) (hl : (Lib.join acc [32]).length ≤ 1000) :
    Calls Tryd.prog 24 #[.slice A acc.length ca, .string { data := #[32] }] w fun e w' => e = .returned (.string (str (Lib.join acc [32]))) ∧ Pure w w' := by
  have hm : (acc.map str).map (·.data.toList) = acc := by
    rw [List.map_map]
    exact (List.map_congr_left fun x _ => by simp [str]).trans (List.map_id _)
  obtain ⟨g, cap, hv, hB, hg⟩ := h.form h0
  simp only [Value.slice.injEq] at hv
  obtain ⟨rfl, -, rfl⟩ := hv
  have hcap : acc.length ≤ ca := by
    rcases h.2 with ⟨h', _⟩ | ⟨g', cap', cur, h', _, _, hc, _⟩
    · simp at h'
    · simp only [Value.slice.injEq, true_and] at h'
      omega
  have hc : ∀ (j : Nat) x, (acc.map str)[j]? = some x → w.cell? ⟨g, 0 + j, none⟩ = some (.string x) := by
    intro j x hx
    have hj := (List.getElem?_eq_some_iff.1 hx).1
    rw [List.length_map] at hj
    rw [Nat.zero_add, h.cellAt j (by omega), strs, List.getElem?_map]
    rw [List.getElem?_map] at hx
    rw [List.getElem?_eq_getElem hj] at hx ⊢
    simp at hx ⊢
    exact hx
  have hj := Tryd.strings_Join g 0 ca (acc.map str) { data := #[32] } w hc hg (by rw [List.length_map]; omega) (by rw [List.length_map]; omega) (by rw [hm]; show (Lib.join acc [32]).length ≤ _; omega)
  rw [List.length_map, hm] at hj
  exact hj.mono fun e w' ⟨a, b⟩ => ⟨a, Only.of_below b _⟩

set_option maxRecDepth 100000 in
set_option maxHeartbeats 4000000 in
theorem oprint_any (o : O19) (w : World) (ho : o.Ok) (he : Env w) : Calls Tryd.prog 8 #[opV o] w fun e w' => e = .returned (.string (str (printL o))) ∧ Pure w w' := by
  obtain ⟨i0, hi0, hz0, hz1, hz2⟩ := info_parts str_info
  have hb := heap_alloc_new w (.cells (opC o) 25)
  have HB := Lib.hid hb
  have HO := Lib.hid ho
  have HE := Lib.hid he
  obtain ⟨c0, c1, c2, c3, c4, c5⟩ := op6 hb
  have P1 := Lib.hid ((Only.refl (fun _ => False) w).alloc (.cells (opC o) 25))
  clear hb ho he c1 c2 c3 c4 c5
  go_enter Tryd.func8, Tryd.ntmps8
  go_wp2_with fail
  refine (words_l o.kind HO.out.k _).mono ?_
  rintro e w2 ⟨rfl, hp2⟩
  have P2 := Lib.hid (Pure.then P1.out hp2)
  have HB2 := Lib.hid (Pure.blk hp2 HB.out)
  clear hp2 c0
  have hst : PrR w o (w2.heap.size + 1) (kn o.kind) 0 (.slice (some ⟨w2.heap.size, 0, none⟩) 1 1) [kw o.kind] ((w2.alloc (.cells #[.string (str (kw o.kind))] 9)).iter (str (kn o.kind)) 0) := by
    have q1 := (Only.refl (fun _ => False) w2).alloc (.cells #[.string (str (kw o.kind))] 9)
    have q2 : Pure w2 ((w2.alloc (.cells #[.string (str (kw o.kind))] 9)).iter (str (kn o.kind)) 0) := q1.alloc _
    have hsz : (w2.alloc (.cells #[.string (str (kw o.kind))] 9)).heap.size = w2.heap.size + 1 := by simp
    have hlt := (Array.getElem?_eq_some_iff.1 HB2.out).1
    refine ⟨P2.out.then q2, q2.blk HB2.out, by rw [← hsz]; exact World.iter_heap _ _ _, by omega, ?_⟩
    have hl := World.ownsRow_lit (base := w.heap.size) (e := 9) (size := 1) w2 #[.string (str (kw o.kind))] 1 (by omega) (by simp [maxLen]) rfl
    exact World.ownsRow.alloc hl _
  have HST := Lib.hid hst
  clear hst
  go_wp2_with fail
  generalize (w2.alloc (.cells #[.string (str (kw o.kind))] 9)).iter (str (kn o.kind)) 0 = w3 at *
  generalize w2.heap.size + 1 = r at *
  have hkl := kn_len o.kind HO.out.k
  go_loopg [5] ((kn o.kind).length) (fun g v wr => ∃ (j : Nat) (acc : List (List UInt8)), j ≤ (kn o.kind).length ∧ g = (kn o.kind).length - j ∧ PrR w o r (kn o.kind) j v acc wr ∧ acc = kw o.kind :: toks o ((kn o.kind).take j) ∧ acc.length ≤ 1 + 2 * j)
  case atStart => exact ⟨0, [kw o.kind], Nat.zero_le _, rfl, HST.out, by simp [toks], by simp⟩
  case round =>
    clear HST
    obtain ⟨j, acc, hj, rfl, hpr, hacc, hal⟩ := hrel
    obtain ⟨A, ca, rfl⟩ := own_form hpr.own
    have HPR := Lib.hid hpr
    have HPN := Lib.hid hpr.next
    have HA := Lib.hid hacc
    obtain ⟨-, c1, c2, c3, c4, c5⟩ := op6 hpr.next.op
    clear hpr hacc
    by_cases hlt : j < (kn o.kind).length
    · obtain ⟨c, hb⟩ : ∃ c, (kn o.kind)[j]? = some c := ⟨_, List.getElem?_eq_getElem hlt⟩
      have hat : (str (kn o.kind))[j]'(by rw [str_size]; exact hlt) = c := str_at (kn o.kind) j c hb _
      have hsn := toks_next o (kn o.kind) j c hb
      rcases kn_sig o.kind HO.out.k c (List.mem_of_getElem? hb) with rfl | rfl | rfl | rfl | rfl | rfl | rfl
      · have htk : tk o 97 = [Lib.itoa o.a] := by simp [tk, fl]
        rw [htk] at hsn
        have HS := Lib.hid hsn
        have hnx := fun ty => next_str (P := Tryd.prog) ty HPR.out.it (by rw [str_size]; exact hlt) (by rw [hat]; decide)
        rw [hat] at hnx
        clear hb hsn htk
        go_wp2_with fail
        refine (field_any w.heap.size 97 1 _ (by simp)).mono ?_
        rintro e w3 ⟨rfl, rfl⟩
        go_wp2_with fail
        refine (oitoa o.a _ HO.out.a.1 HO.out.a.2 (HE.out.pure HPN.out.pu)).mono ?_
        rintro e w4 ⟨rfl, hp4⟩
        have P4 := Lib.hid (HPN.out.keep hp4)
        clear hp4 hnx c1 c2 c3 c4 c5
        obtain ⟨X, hX⟩ : ∃ X, Lib.itoa o.a = X := ⟨_, rfl⟩
        rw [hX]
        rw [hX] at HS
        clear hX
        go_wp2_with (at_builtin; refine wpList_app _ rfl (.tmp 38) (.tmp 44) _ rfl w.heap.size 9 i0 _ 1 16 Tryd.underlying34 hi0 hz0 hz1 hz2 rfl (by omega) (.slice A acc.length ca) acc.length _ rfl (World.ownsRow.alloc P4.out.own _) _ 1 1 [.string (str X)] rfl (Src.row _ _ #[.string (str X)] 1 1 _ rfl rfl) (by simp [Value.oneCell']) (by simp only [maxLen]; omega) (by omega) (by have := P4.out.pu.size; simp at this ⊢; omega) ?_; intro v9 w9 hown9 hg9 hat9; obtain ⟨A9, n9, rfl⟩ := own_form hown9; have HO9 := Lib.hid hown9; have HG9 := Lib.hid hg9; clear hown9 hg9 hat9; go_frame)
        go_roundg ((kn o.kind).length - (j + 1))
        case measure => omega
        case rel => exact ⟨j + 1, acc ++ [X], by omega, rfl, P4.out.grow (by rw [strs_snoc]; simpa using HO9.out) HG9.out, by rw [HA.out, HS.out]; simp, by simp; omega⟩
      · have htk : tk o 98 = [Lib.itoa o.b] := by simp [tk, fl]
        rw [htk] at hsn
        have HS := Lib.hid hsn
        have hnx := fun ty => next_str (P := Tryd.prog) ty HPR.out.it (by rw [str_size]; exact hlt) (by rw [hat]; decide)
        rw [hat] at hnx
        clear hb hsn htk
        go_wp2_with fail
        refine (field_any w.heap.size 98 2 _ (by simp)).mono ?_
        rintro e w3 ⟨rfl, rfl⟩
        go_wp2_with fail
        refine (oitoa o.b _ HO.out.b.1 HO.out.b.2 (HE.out.pure HPN.out.pu)).mono ?_
        rintro e w4 ⟨rfl, hp4⟩
        have P4 := Lib.hid (HPN.out.keep hp4)
        clear hp4 hnx c1 c2 c3 c4 c5
        obtain ⟨X, hX⟩ : ∃ X, Lib.itoa o.b = X := ⟨_, rfl⟩
        rw [hX]
        rw [hX] at HS
        clear hX
        go_wp2_with (at_builtin; refine wpList_app _ rfl (.tmp 38) (.tmp 44) _ rfl w.heap.size 9 i0 _ 1 16 Tryd.underlying34 hi0 hz0 hz1 hz2 rfl (by omega) (.slice A acc.length ca) acc.length _ rfl (World.ownsRow.alloc P4.out.own _) _ 1 1 [.string (str X)] rfl (Src.row _ _ #[.string (str X)] 1 1 _ rfl rfl) (by simp [Value.oneCell']) (by simp only [maxLen]; omega) (by omega) (by have := P4.out.pu.size; simp at this ⊢; omega) ?_; intro v9 w9 hown9 hg9 hat9; obtain ⟨A9, n9, rfl⟩ := own_form hown9; have HO9 := Lib.hid hown9; have HG9 := Lib.hid hg9; clear hown9 hg9 hat9; go_frame)
        go_roundg ((kn o.kind).length - (j + 1))
        case measure => omega
        case rel => exact ⟨j + 1, acc ++ [X], by omega, rfl, P4.out.grow (by rw [strs_snoc]; simpa using HO9.out) HG9.out, by rw [HA.out, HS.out]; simp, by simp; omega⟩
      · have htk : tk o 107 = [Lib.itoa o.b] := by simp [tk, fl]
        rw [htk] at hsn
        have HS := Lib.hid hsn
        have hnx := fun ty => next_str (P := Tryd.prog) ty HPR.out.it (by rw [str_size]; exact hlt) (by rw [hat]; decide)
        rw [hat] at hnx
        clear hb hsn htk
        go_wp2_with fail
        refine (field_any w.heap.size 107 2 _ (by simp)).mono ?_
        rintro e w3 ⟨rfl, rfl⟩
        go_wp2_with fail
        refine (oitoa o.b _ HO.out.b.1 HO.out.b.2 (HE.out.pure HPN.out.pu)).mono ?_
        rintro e w4 ⟨rfl, hp4⟩
        have P4 := Lib.hid (HPN.out.keep hp4)
        clear hp4 hnx c1 c2 c3 c4 c5
        obtain ⟨X, hX⟩ : ∃ X, Lib.itoa o.b = X := ⟨_, rfl⟩
        rw [hX]
        rw [hX] at HS
        clear hX
        go_wp2_with (at_builtin; refine wpList_app _ rfl (.tmp 38) (.tmp 44) _ rfl w.heap.size 9 i0 _ 1 16 Tryd.underlying34 hi0 hz0 hz1 hz2 rfl (by omega) (.slice A acc.length ca) acc.length _ rfl (World.ownsRow.alloc P4.out.own _) _ 1 1 [.string (str X)] rfl (Src.row _ _ #[.string (str X)] 1 1 _ rfl rfl) (by simp [Value.oneCell']) (by simp only [maxLen]; omega) (by omega) (by have := P4.out.pu.size; simp at this ⊢; omega) ?_; intro v9 w9 hown9 hg9 hat9; obtain ⟨A9, n9, rfl⟩ := own_form hown9; have HO9 := Lib.hid hown9; have HG9 := Lib.hid hg9; clear hown9 hg9 hat9; go_frame)
        go_roundg ((kn o.kind).length - (j + 1))
        case measure => omega
        case rel => exact ⟨j + 1, acc ++ [X], by omega, rfl, P4.out.grow (by rw [strs_snoc]; simpa using HO9.out) HG9.out, by rw [HA.out, HS.out]; simp, by simp; omega⟩
      · have htk : tk o 99 = [Lib.itoa o.c] := by simp [tk, fl]
        rw [htk] at hsn
        have HS := Lib.hid hsn
        have hnx := fun ty => next_str (P := Tryd.prog) ty HPR.out.it (by rw [str_size]; exact hlt) (by rw [hat]; decide)
        rw [hat] at hnx
        clear hb hsn htk
        go_wp2_with fail
        refine (field_any w.heap.size 99 3 _ (by simp)).mono ?_
        rintro e w3 ⟨rfl, rfl⟩
        go_wp2_with fail
        refine (oitoa o.c _ HO.out.c.1 HO.out.c.2 (HE.out.pure HPN.out.pu)).mono ?_
        rintro e w4 ⟨rfl, hp4⟩
        have P4 := Lib.hid (HPN.out.keep hp4)
        clear hp4 hnx c1 c2 c3 c4 c5
        obtain ⟨X, hX⟩ : ∃ X, Lib.itoa o.c = X := ⟨_, rfl⟩
        rw [hX]
        rw [hX] at HS
        clear hX
        go_wp2_with (at_builtin; refine wpList_app _ rfl (.tmp 38) (.tmp 44) _ rfl w.heap.size 9 i0 _ 1 16 Tryd.underlying34 hi0 hz0 hz1 hz2 rfl (by omega) (.slice A acc.length ca) acc.length _ rfl (World.ownsRow.alloc P4.out.own _) _ 1 1 [.string (str X)] rfl (Src.row _ _ #[.string (str X)] 1 1 _ rfl rfl) (by simp [Value.oneCell']) (by simp only [maxLen]; omega) (by omega) (by have := P4.out.pu.size; simp at this ⊢; omega) ?_; intro v9 w9 hown9 hg9 hat9; obtain ⟨A9, n9, rfl⟩ := own_form hown9; have HO9 := Lib.hid hown9; have HG9 := Lib.hid hg9; clear hown9 hg9 hat9; go_frame)
        go_roundg ((kn o.kind).length - (j + 1))
        case measure => omega
        case rel => exact ⟨j + 1, acc ++ [X], by omega, rfl, P4.out.grow (by rw [strs_snoc]; simpa using HO9.out) HG9.out, by rw [HA.out, HS.out]; simp, by simp; omega⟩
      · have htk : tk o 110 = [Lib.itoa o.n] := by simp [tk, fl]
        rw [htk] at hsn
        have HS := Lib.hid hsn
        have hnx := fun ty => next_str (P := Tryd.prog) ty HPR.out.it (by rw [str_size]; exact hlt) (by rw [hat]; decide)
        rw [hat] at hnx
        clear hb hsn htk
        go_wp2_with fail
        refine (field_any w.heap.size 110 4 _ (by simp)).mono ?_
        rintro e w3 ⟨rfl, rfl⟩
        go_wp2_with fail
        refine (oitoa o.n _ HO.out.n.1 HO.out.n.2 (HE.out.pure HPN.out.pu)).mono ?_
        rintro e w4 ⟨rfl, hp4⟩
        have P4 := Lib.hid (HPN.out.keep hp4)
        clear hp4 hnx c1 c2 c3 c4 c5
        obtain ⟨X, hX⟩ : ∃ X, Lib.itoa o.n = X := ⟨_, rfl⟩
        rw [hX]
        rw [hX] at HS
        clear hX
        go_wp2_with (at_builtin; refine wpList_app _ rfl (.tmp 38) (.tmp 44) _ rfl w.heap.size 9 i0 _ 1 16 Tryd.underlying34 hi0 hz0 hz1 hz2 rfl (by omega) (.slice A acc.length ca) acc.length _ rfl (World.ownsRow.alloc P4.out.own _) _ 1 1 [.string (str X)] rfl (Src.row _ _ #[.string (str X)] 1 1 _ rfl rfl) (by simp [Value.oneCell']) (by simp only [maxLen]; omega) (by omega) (by have := P4.out.pu.size; simp at this ⊢; omega) ?_; intro v9 w9 hown9 hg9 hat9; obtain ⟨A9, n9, rfl⟩ := own_form hown9; have HO9 := Lib.hid hown9; have HG9 := Lib.hid hg9; clear hown9 hg9 hat9; go_frame)
        go_roundg ((kn o.kind).length - (j + 1))
        case measure => omega
        case rel => exact ⟨j + 1, acc ++ [X], by omega, rfl, P4.out.grow (by rw [strs_snoc]; simpa using HO9.out) HG9.out, by rw [HA.out, HS.out]; simp, by simp; omega⟩
      · have htk : tk o 103 = [Lib.itoa o.n] := by simp [tk, fl]
        rw [htk] at hsn
        have HS := Lib.hid hsn
        have hnx := fun ty => next_str (P := Tryd.prog) ty HPR.out.it (by rw [str_size]; exact hlt) (by rw [hat]; decide)
        rw [hat] at hnx
        clear hb hsn htk
        go_wp2_with fail
        refine (field_any w.heap.size 103 4 _ (by simp)).mono ?_
        rintro e w3 ⟨rfl, rfl⟩
        go_wp2_with fail
        refine (oitoa o.n _ HO.out.n.1 HO.out.n.2 (HE.out.pure HPN.out.pu)).mono ?_
        rintro e w4 ⟨rfl, hp4⟩
        have P4 := Lib.hid (HPN.out.keep hp4)
        clear hp4 hnx c1 c2 c3 c4 c5
        obtain ⟨X, hX⟩ : ∃ X, Lib.itoa o.n = X := ⟨_, rfl⟩
        rw [hX]
        rw [hX] at HS
        clear hX
        go_wp2_with (at_builtin; refine wpList_app _ rfl (.tmp 38) (.tmp 44) _ rfl w.heap.size 9 i0 _ 1 16 Tryd.underlying34 hi0 hz0 hz1 hz2 rfl (by omega) (.slice A acc.length ca) acc.length _ rfl (World.ownsRow.alloc P4.out.own _) _ 1 1 [.string (str X)] rfl (Src.row _ _ #[.string (str X)] 1 1 _ rfl rfl) (by simp [Value.oneCell']) (by simp only [maxLen]; omega) (by omega) (by have := P4.out.pu.size; simp at this ⊢; omega) ?_; intro v9 w9 hown9 hg9 hat9; obtain ⟨A9, n9, rfl⟩ := own_form hown9; have HO9 := Lib.hid hown9; have HG9 := Lib.hid hg9; clear hown9 hg9 hat9; go_frame)
        go_roundg ((kn o.kind).length - (j + 1))
        case measure => omega
        case rel => exact ⟨j + 1, acc ++ [X], by omega, rfl, P4.out.grow (by rw [strs_snoc]; simpa using HO9.out) HG9.out, by rw [HA.out, HS.out]; simp, by simp; omega⟩
      · have htk : tk o 122 = [hexL (partB o.x), hexL (partB o.y)] := by simp [tk]
        rw [htk] at hsn
        have HS := Lib.hid hsn
        have hnx := fun ty => next_str (P := Tryd.prog) ty HPR.out.it (by rw [str_size]; exact hlt) (by rw [hat]; decide)
        rw [hat] at hnx
        clear hb hsn htk
        go_wp2_with fail
        refine (bits_any o.x o.y _).mono ?_
        rintro e w3 ⟨rfl, rfl⟩
        go_wp2_with fail
        refine (ohex_any (partB o.x) _ (partB_lt _ HO.out.x) (HE.out.pure HPN.out.pu)).mono ?_
        rintro e w4 ⟨rfl, hp4⟩
        have P4 := Lib.hid (HPN.out.keep hp4)
        clear hp4 hnx c1 c2 c3 c4 c5
        go_wp2_with fail
        refine (ohex_any (partB o.y) _ (partB_lt _ HO.out.y) (HE.out.pure P4.out.pu)).mono ?_
        rintro e w5 ⟨rfl, hp5⟩
        have P5 := Lib.hid (P4.out.keep hp5)
        clear hp5
        obtain ⟨X, hX⟩ : ∃ X, hexL (partB o.x) = X := ⟨_, rfl⟩
        obtain ⟨Y, hY⟩ : ∃ Y, hexL (partB o.y) = Y := ⟨_, rfl⟩
        rw [hX, hY]
        rw [hX, hY] at HS
        clear hX hY
        go_wp2_with (at_builtin; refine wpList_app _ rfl (.tmp 31) (.tmp 36) _ rfl w.heap.size 9 i0 _ 1 16 Tryd.underlying34 hi0 hz0 hz1 hz2 rfl (by omega) (.slice A acc.length ca) acc.length _ rfl (World.ownsRow.alloc P5.out.own _) _ 2 2 [.string (str X), .string (str Y)] rfl (Src.row _ _ #[.string (str X), .string (str Y)] 1 2 _ rfl rfl) (by simp [Value.oneCell']) (by simp only [maxLen]; omega) (by omega) (by have := P5.out.pu.size; simp at this ⊢; omega) ?_; intro v9 w9 hown9 hg9 hat9; obtain ⟨A9, n9, rfl⟩ := own_form hown9; have HO9 := Lib.hid hown9; have HG9 := Lib.hid hg9; clear hown9 hg9 hat9; go_frame)
        go_roundg ((kn o.kind).length - (j + 1))
        case measure => omega
        case rel => exact ⟨j + 1, acc ++ [X, Y], by omega, rfl, P5.out.grow (by rw [show strs (acc ++ [X, Y]) = strs acc ++ [.string (str X), .string (str Y)] from by simp [strs]]; simpa using HO9.out) HG9.out, by rw [HA.out, HS.out]; simp, by simp; omega⟩
    · obtain rfl : j = (kn o.kind).length := by omega
      have hnx := fun ty => next_str_end (P := Tryd.prog) ty HPR.out.it (by rw [str_size]; omega)
      clear c1 c2 c3 c4 c5
      go_wp2_with fail
      have hjn : acc = kw o.kind :: toks o (kn o.kind) := by rw [HA.out, List.take_length]
      have hpl : Lib.join acc [32] = printL o := by rw [hjn, ← printL_join]
      have hpn := printL_len o HO.out
      refine (strings_join w.heap.size acc A ca _ HPR.out.own (by rw [hjn]; simp) (by omega) (by rw [hpl]; omega)).mono ?_
      rintro e w4 ⟨rfl, hp4⟩
      rw [hpl]
      have HP4 := Lib.hid (HPR.out.pu.then hp4)
      clear hp4 hnx hjn hpl
      go_wp2_with fail
      go_ret
      exact ⟨rfl, HP4.out⟩

end Go.Proofs.YtelkimgcbkmdmaaDoor
