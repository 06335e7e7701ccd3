/-
  slices.Delete of one entry; the contract of the line's Drop.
-/
import Derived.Test.YtmpomkejmokdlaaLine3
import Derived.Lib.SliceRun
import Derived.Deep.MidRow
namespace Go.Proofs.Ytmpomkejmokdlaa
open Go.RowKit

theorem setCells_block (b : Nat) (e : TypeId) : ∀ (vs : List Value) (o : Nat) (w : World) (cur : Array Value), w.heap[b]? = some (.cells cur e (0, 0)) → o + vs.length ≤ cur.size →
    ∃ cur', (w.setCells b o vs).heap[b]? = some (.cells cur' e (0, 0)) ∧ cur'.toList = cur.toList.take o ++ vs ++ cur.toList.drop (o + vs.length)
  | [], o, w, cur, h, hs => ⟨cur, h, by simp⟩
  | v :: r, o, w, cur, h, hs => by
    simp only [List.length_cons] at hs
    obtain ⟨c', h1, h2⟩ := setCells_block b e r (o + 1) (w.setCell ⟨b, o, none⟩ v) (cur.setIfInBounds o v) (heap_setCell_same w b o cur e v h) (by simp; omega)
    refine ⟨c', h1, ?_⟩
    rw [h2, Array.toList_setIfInBounds, List.take_add_one, List.drop_set_of_lt (by omega), List.take_set_of_le (by omega), List.getElem?_set_self (by simp; omega)]
    simp only [List.length_cons, Option.toList_some, List.append_assoc, List.cons_append, List.nil_append]
    rw [show o + 1 + r.length = o + (r.length + 1) from by omega]

theorem only_cells (b : Nat) : ∀ (vs : List Value) (o : Nat) (a : World) (w : World), Only (fun q => q = b) a w → Only (fun q => q = b) a (w.setCells b o vs)
  | [], _, _, _, h => h
  | v :: r, o, a, _, h => only_cells b r (o + 1) a _ (only_set h o v)

/-- A row whose entry k was taken out. -/
theorem own_del {w : World} {g c : Nat} {l : List En} {k : Nat} (h : w.ownsRow 0 53 8 (.slice (some ⟨g, 0, none⟩) l.length c) l.length (ens l)) (hk : k < l.length) (zs : List Value) (hz : zs.length = 8) :
    ((w.setCells g (k * 8) (ens (l.drop (k + 1)))).setCells g ((l.length - 1) * 8) zs).ownsRow 0 53 8 (.slice (some ⟨g, 0, none⟩) (l.length - 1) c) (l.length - 1) (ens (l.eraseIdx k)) := by
  have hle : (ens (l.drop (k + 1))).length = (l.length - 1 - k) * 8 := by rw [ens_length, List.length_drop]; congr 1; omega
  rcases h.2 with ⟨h0, _⟩ | ⟨g', cap, cur, hv, hb, hg, hn, hm, hs, ht⟩
  · simp at h0
  · injection hv with hv1 hv2 hv3
    injection hv1 with hv1
    injection hv1 with hv1
    subst hv1 hv3
    obtain ⟨c1, h1, e1⟩ := setCells_block g 53 (ens (l.drop (k + 1))) (k * 8) w cur hg (by rw [hle, hs]; omega)
    have s1 : c1.size = cur.size := by
      rw [← Array.length_toList, e1]
      simp only [List.length_append, List.length_take, List.length_drop, Array.length_toList, hle, hs]
      omega
    obtain ⟨c2, h2, e2⟩ := setCells_block g 53 zs ((l.length - 1) * 8) _ c1 h1 (by rw [hz, s1, hs]; omega)
    have s2 : c2.size = cur.size := by
      rw [← Array.length_toList, e2, ← s1]
      simp only [List.length_append, List.length_take, List.length_drop, Array.length_toList, hz, s1, hs]
      omega
    refine ⟨by rw [ens_length, List.length_eraseIdx_of_lt hk], .inr ⟨g, c, c2, rfl, hb, h2, by omega, hm, by rw [s2, hs], ?_⟩⟩
    have k1 : (cur.toList.take (k * 8)) = ens (l.take k) := by
      rw [← ens_take, ← ht, List.take_take, Nat.min_eq_left (by omega)]
    have k2 : (ens (l.take k)).length = k * 8 := by rw [ens_length, List.length_take, Nat.min_eq_left (by omega)]
    have k3 : (cur.toList.take (k * 8) ++ ens (l.drop (k + 1))).length = (l.length - 1) * 8 := by rw [List.length_append, k1, k2, hle]; omega
    rw [e2, List.append_assoc, e1, List.take_append_of_le_length (by rw [List.length_take, List.length_append, k3]; omega), List.take_take, Nat.min_self, List.take_append_of_le_length (by omega), List.take_of_length_le (by omega), k1, ← ens_append, List.eraseIdx_eq_take_drop_succ]

theorem entry_zero : ∀ w, (zeroValue 53).run Try.prog w = .ok (.agg #[.int .i64 0, .int .i64 0, .int .i64 0, .int .i64 0, .int .i64 0, .int .i64 0, .slice none 0 0, .bool false]) w := fun w => by
  have hz : (Try.t53).zero = some (.agg #[.int .i64 0, .int .i64 0, .int .i64 0, .int .i64 0, .int .i64 0, .int .i64 0, .slice none 0 0, .bool false]) := by kernel_rfl
  simp [zeroValue, hz]

/-- clear of one element of several cells. -/
theorem run_clear_one {P : Program} (w : World) (t e ty : TypeId) (z : Value) (ht : P.underlying t = some (.slice e)) (hv : ∀ w, (zeroValue e).run P w = .ok z w) (h1 : ∀ u ∈ z.cells.toList, u.oneCell' = true) (b o c : Nat)
    (hc : ∀ j, j < z.cells.size → (w.cell? ⟨b, o + j, none⟩).isSome = true) (hf : ∀ j, j < z.cells.size → w.frozen? ⟨b, o + j, none⟩ = false) :
    (Builtin.clear_ #[t] ty #[.slice (some ⟨b, o, none⟩) 1 c]).run P w = .ok (.tuple #[]) (w.setCells b o z.cells.toList) := by
  have hzc : (Builtin.zeroCells z.cells 1).toList = z.cells.toList := by
    simp [Builtin.zeroCells]
    apply List.ext_getElem
    · simp
    · intro i h1 h2
      have h3 : i < z.cells.size := by simpa using h1
      simp [Nat.mod_eq_of_lt h3, h3]
  have hst := run_storeCells_cells (P := P) b o z.cells.toList 0 w (by simpa using hc) (by simpa using hf) h1
  simp only [Nat.add_zero] at hst
  simp [Builtin.clear_, run_underlying ht, hv, hzc, hst]

set_option maxHeartbeats 4000000 in
set_option maxRecDepth 1000000 in
/-- slices.Delete of one entry. -/
theorem delete_any (g c k : Nat) (l : List En) (w : World) (h : w.ownsRow 0 53 8 (.slice (some ⟨g, 0, none⟩) l.length c) l.length (ens l)) (hk : k < l.length) (hone : ∀ u ∈ ens l, u.oneCell' = true) (hfew : l.length ≤ 1000) :
    Calls Try.prog 33 #[.slice (some ⟨g, 0, none⟩) l.length c, .int .i64 k, .int .i64 ((k : Int) + 1)] w fun e w' => e = .returned (.slice (some ⟨g, 0, none⟩) (l.length - 1) c) ∧ w'.ownsRow 0 53 8 (.slice (some ⟨g, 0, none⟩) (l.length - 1) c) (l.length - 1) (ens (l.eraseIdx k)) ∧ Only (fun q => q = g) w w' := by
  obtain ⟨i0, hi0, hz0, hz1, hz2⟩ := info_parts entry_info
  obtain ⟨hcap, hmax⟩ : l.length ≤ c ∧ c ≤ 9223372036854775807 := by
    rcases h.2 with ⟨h0, _⟩ | ⟨g', cap, cur, hv, hb, hg, hn, hm, hs, ht⟩
    · simp at h0
    · injection hv with hv1 hv2 hv3
      exact ⟨by omega, by simp only [maxLen] at hm; omega⟩
  obtain ⟨news, hnews⟩ : ∃ news, news = ens (l.drop (k + 1)) := ⟨_, rfl⟩
  have hlen : news.length = (l.length - (k + 1)) * 8 := by rw [hnews, ens_length, List.length_drop]
  have hget : ∀ (t : Nat) (u : Value), news[t]? = some u → w.cell? ⟨g, (k + 1) * 8 + t, none⟩ = some u := fun t u hu => by
    have ht := (List.getElem?_eq_some_iff.1 hu).1
    rw [hlen] at ht
    rw [hnews, ← ens_drop, List.getElem?_drop] at hu
    exact (h.cellAt _ (by omega)).trans hu
  have hthere : ∀ j, j < l.length * 8 → (w.cell? ⟨g, j, none⟩).isSome = true ∧ w.frozen? ⟨g, j, none⟩ = false := fun j hj => by
    refine ⟨?_, h.frozenAt j⟩
    rw [h.cellAt j (by omega), List.getElem?_eq_getElem (by rw [ens_length]; exact hj)]
    rfl
  obtain ⟨A, hA, hsrc⟩ : ∃ A : Addr, (if c = k + 1 then some (⟨g, 0, none⟩ : Addr) else some ⟨g, (k + 1) * 8, none⟩) = some A ∧ Hid (∀ t u, news[t]? = some u → w.drew.cell? (A.add t) = some u) := by
    by_cases hc : c = k + 1
    · refine ⟨⟨g, 0, none⟩, by simp [hc], fun t u hu => ?_⟩
      have h0 : news.length = 0 := by rw [hlen]; omega
      rw [List.length_eq_zero_iff.1 h0] at hu
      simp at hu
    · refine ⟨⟨g, (k + 1) * 8, none⟩, by simp [hc], fun t u hu => ?_⟩
      rw [Addr.add_lit]
      exact hget t u hu
  have s1 : Hid (news.length = (l.length - (k + 1)) * 8) := hlen
  have s2 : Hid (∀ u ∈ news, u.oneCell' = true) := by
    intro u hu
    rw [hnews, ← ens_drop] at hu
    exact hone u (List.mem_of_mem_drop hu)
  have s3 : Hid (∀ t, t < news.length → (w.drew.cell? ⟨g, 0 + k * 8 + t, none⟩).isSome = true ∧ w.drew.frozen? ⟨g, 0 + k * 8 + t, none⟩ = false) := by
    intro t ht
    rw [hlen] at ht
    rw [Nat.zero_add]
    exact hthere _ (by omega)
  obtain ⟨W1, hW1⟩ : ∃ W1, W1 = w.drew.setCells g (0 + k * 8) news := ⟨_, rfl⟩
  have hL1 : ∀ j, j < l.length * 8 → (W1.cell? ⟨g, j, none⟩).isSome = true ∧ W1.frozen? ⟨g, j, none⟩ = false := fun j hj => by
    rw [hW1]
    exact ⟨World.isSome_setCells g news _ _ _ (hthere j hj).1, (World.frozen?_setCells g news _ _ _).trans (hthere j hj).2⟩
  have hfin : (W1.setCells g ((l.length - 1) * 8) [.int .i64 0, .int .i64 0, .int .i64 0, .int .i64 0, .int .i64 0, .int .i64 0, .slice none 0 0, .bool false]).ownsRow 0 53 8 (.slice (some ⟨g, 0, none⟩) (l.length - 1) c) (l.length - 1) (ens (l.eraseIdx k)) ∧ Only (fun q => q = g) w (W1.setCells g ((l.length - 1) * 8) [.int .i64 0, .int .i64 0, .int .i64 0, .int .i64 0, .int .i64 0, .int .i64 0, .slice none 0 0, .bool false]) := by
    rw [hW1, hnews, Nat.zero_add]
    exact ⟨own_del (w := w.drew) h hk _ rfl, only_cells g _ _ _ _ (only_cells g _ _ _ _ (show Only _ w w.drew from ⟨rfl, rfl, rfl, Nat.le_refl _, fun _ _ _ => rfl⟩))⟩
  have e1 : l.length - (k + (l.length - (k + 1))) = 1 := by omega
  have e2 : k + (l.length - (k + 1)) = l.length - 1 := by omega
  have hcl : ∀ ty cc, (Builtin.clear_ #[48] ty #[.slice (some ⟨g, (k + (l.length - (k + 1))) * 8, none⟩) (l.length - (k + (l.length - (k + 1)))) cc]).run Try.prog W1 = .ok (.tuple #[]) (W1.setCells g ((l.length - 1) * 8) [.int .i64 0, .int .i64 0, .int .i64 0, .int .i64 0, .int .i64 0, .int .i64 0, .slice none 0 0, .bool false]) := fun ty cc => by
    rw [e1, e2]
    exact run_clear_one W1 _ _ ty _ Try.underlying48 entry_zero (by simp [Value.cells, Value.oneCell']) g _ cc (fun j hj => (hL1 _ (by simp [Value.cells] at hj; omega)).1) (fun j hj => (hL1 _ (by simp [Value.cells] at hj; omega)).2)
  have hW : Hid (W1 = w.drew.setCells g (0 + k * 8) news) := hW1
  have HF := Lib.hid hfin
  have hic : k ≤ c := by omega
  have hjc : k + 1 ≤ c := by omega
  have b0 : (0 : Int) ≤ (k : Int) + 1 := by omega
  have b1 : (k : Int) + 1 ≤ (l.length : Int) := by omega
  clear hW1 hL1 hthere hget hnews hlen hfin e1 e2 hone h
  go_enter Try.func33, Try.ntmps33
  go_wp2_with fail
  go_region_law (refine step_append_room rfl (.tmp 22) (.tmp 25) 48 rfl 53 i0 8 Try.underlying48 hi0 hz1 g 0 k c (by simp [Act.eval, Act.put]) A (l.length - (k + 1)) (c - (k + 1)) news (by simp [Act.eval, Act.put]) s1.out hsrc.out s2.out (by omega) s3.out ?_; rw [← hW.out])
  go_wp2_with fail
  go_ret
  exact ⟨by rw [show k + (l.length - (k + 1)) = l.length - 1 from by omega]; rfl, HF.out.1, HF.out.2⟩

theorem LineOf.one {w : World} {P : Nat} {v : Value} {l : List En} (h : LineOf w P v l) : ∀ u ∈ ens l, u.oneCell' = true := by
  intro u hu
  obtain ⟨e, he, hu⟩ := List.mem_flatMap.1 hu
  obtain ⟨A, c, hv, _⟩ := (h.got e he).1
  simp only [enCells, hv] at hu
  simp at hu
  rcases hu with rfl | rfl | rfl | rfl | rfl | rfl | rfl | rfl <;> rfl

/-- A line one of whose entries was taken out. -/
theorem LineOf.dropped {w w2 : World} {P g c k : Nat} {l : List En} (h : LineOf w P (.slice (some ⟨g, 0, none⟩) l.length c) l) (hk : k < l.length) (hown : w2.ownsRow 0 53 8 (.slice (some ⟨g, 0, none⟩) (l.length - 1) c) (l.length - 1) (ens (l.eraseIdx k))) (ho : Only (fun q => q = g) w w2) :
    LineOf (w2.setCell ⟨P, 0, none⟩ (.slice (some ⟨g, 0, none⟩) (l.length - 1) c)) P (.slice (some ⟨g, 0, none⟩) (l.length - 1) c) (l.eraseIdx k) ∧ Only (LineS P (.slice (some ⟨g, 0, none⟩) l.length c)) w (w2.setCell ⟨P, 0, none⟩ (.slice (some ⟨g, 0, none⟩) (l.length - 1) c)) := by
  have hP := (Array.getElem?_eq_some_iff.1 h.at_).1
  have hne : g ≠ P := line_ne h.at_ h.own rfl
  have at2 : w2.heap[P]? = some (.cells #[.slice (some ⟨g, 0, none⟩) l.length c] 50 (0, 0)) := (ho.block P hP (fun e' => hne e'.symm)).trans h.at_
  have hoS : Only (LineS P (.slice (some ⟨g, 0, none⟩) l.length c)) w (w2.setCell ⟨P, 0, none⟩ (.slice (some ⟨g, 0, none⟩) (l.length - 1) c)) := only_added _ (ho.mono (fun q _ hq => by subst hq; rfl))
  have ho2 : Only (fun q => q = P) w2 (w2.setCell ⟨P, 0, none⟩ (.slice (some ⟨g, 0, none⟩) (l.length - 1) c)) := only_set (Only.refl _ w2) 0 _
  have hlen : (l.eraseIdx k).length = l.length - 1 := List.length_eraseIdx_of_lt hk
  refine ⟨⟨by simp [World.setCell, Array.getElem?_modify, at2], ?_, fun e' he' => ?_, by have := h.few; omega, fun e' he' => h.short e' (List.mem_of_mem_eraseIdx he')⟩, hoS⟩
  · rw [hlen]
    exact ho2.own hown (fun q hq e => by simp [Value.ownBlock] at hq; omega)
  · have he := List.mem_of_mem_eraseIdx he'
    exact ⟨(h.got e' he).1.only hoS (fun q hq => ((h.got e' he).2 q hq).1), fun q hq => ⟨((h.got e' he).2 q hq).1, Nat.lt_of_lt_of_le ((h.got e' he).2 q hq).2 hoS.size⟩⟩

theorem drop_no (P : Nat) (v : Value) (l : List En) (t : Int) (w : World) (hl : LineOf w P v l) (hix : ixI (isT t) l = -1) :
    Calls Try.prog 10 #[.pointer (some ⟨P, 0, none⟩), .int .i64 t] w fun e' w' => e' = .returned (.bool false) ∧ Pure w w' := by
  have HL := Lib.hid hl
  have HIX := Lib.hid hix
  clear hl hix
  go_enter Try.func10, Try.ntmps10
  go_wp2_with fail
  refine (of_any P v l t _ HL.out).mono ?_
  rw [HIX.out]
  rintro e1 w2 ⟨rfl, hp2⟩
  have P2 := Lib.hid hp2
  clear hp2
  go_wp2_with fail
  go_ret
  exact ⟨rfl, P2.out⟩

theorem drop_yes (P : Nat) (v : Value) (l : List En) (t : Int) (k : Nat) (w : World) (hl : LineOf w P v l) (hix : ixI (isT t) l = k) (hk : k < l.length) :
    Calls Try.prog 10 #[.pointer (some ⟨P, 0, none⟩), .int .i64 t] w fun e' w' => ∃ v', e' = .returned (.bool true) ∧ LineOf w' P v' (l.eraseIdx k) ∧ Only (LineS P v) w w' ∧ v'.ownBlock = v.ownBlock := by
  obtain ⟨g, c, rfl, _, _⟩ := hl.own.form (n := l.length) (by omega)
  have HL := Lib.hid hl
  have HIX := Lib.hid hix
  have hfew := hl.few
  have hk1 : ((k : Int) < 0) = False := by simp
  clear hl hix
  go_enter Try.func10, Try.ntmps10
  go_wp2_with fail
  refine (of_any P _ l t _ HL.out).mono ?_
  rw [HIX.out]
  rintro e1 w2 ⟨rfl, hp2⟩
  have P2 := Lib.hid hp2
  have L2 := Lib.hid (HL.out.pure hp2)
  have c0 := L2.out.c0
  clear hp2
  go_wp2_with fail
  refine (delete_any g c k l _ L2.out.own hk L2.out.one hfew).mono ?_
  rintro e3 w3 ⟨rfl, hown3, ho3⟩
  have D := Lib.hid (L2.out.dropped hk hown3 ho3)
  have at3 : w3.heap[P]? = some (.cells #[.slice (some ⟨g, 0, none⟩) l.length c] 50 (0, 0)) := (ho3.block P (Array.getElem?_eq_some_iff.1 L2.out.at_).1 (fun e' => line_ne L2.out.at_ L2.out.own rfl e'.symm)).trans L2.out.at_
  have c3 := cell_of_row w3 P 0 _ _ _ at3
  have f3 := frozen_of_row w3 P 0 _ _ at3
  clear hown3 ho3 at3 c0
  go_wp2_with fail
  go_ret
  exact ⟨_, rfl, D.out.1, (P2.out.mono (fun _ _ f => f.elim)).trans D.out.2 (fun _ _ h => h), rfl⟩

end Go.Proofs.Ytmpomkejmokdlaa
