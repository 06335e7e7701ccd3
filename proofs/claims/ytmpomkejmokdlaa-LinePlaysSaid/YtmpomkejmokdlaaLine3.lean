/-
  Contracts of the line's Waits and Add.
-/
import Derived.Test.YtmpomkejmokdlaaLine2
import Derived.Deep.RegionLaw
namespace Go.Proofs.Ytmpomkejmokdlaa
open Go.RowKit

theorem count_succ (l : List En) (k : Nat) (e : En) (h : l[k]? = some e) : (l.take (k + 1)).countP isW = (l.take k).countP isW + if isW e = true then 1 else 0 := by
  rw [List.take_add_one, h, List.countP_append]
  simp [List.countP_cons]

set_option maxRecDepth 100000 in
theorem waits_any (P : Nat) (v : Value) (l : List En) (w : World) (hl : LineOf w P v l) :
    Calls Try.prog 12 #[.pointer (some ⟨P, 0, none⟩)] w fun e w' => e = .returned (.int .i64 (l.countP isW : Nat)) ∧ Pure w w' := by
  have HL := Lib.hid (fun (w' : World) (hp : Pure w w') => hl.pure hp)
  obtain ⟨A, c, rfl⟩ := hl.form
  have hfew := hl.few
  have c0 := hl.c0
  clear hl
  go_enter Try.func12, Try.ntmps12
  go_wp2_with fail
  clear c0
  go_loopw [3, 11] (fun n i wr => ∃ k m : Nat, k ≤ l.length ∧ i = .int .i64 k ∧ n = .int .i64 m ∧ m ≤ k ∧ Hid (m = (l.take k).countP isW) ∧ Pure w wr) (fun _ i _ => l.length - (intOf i).toNat)
  case atStart => exact ⟨0, 0, Nat.zero_le _, rfl, rfl, Nat.le_refl _, Lib.hid rfl, Only.refl _ _⟩
  case round =>
    obtain ⟨k, m, hk, rfl, rfl, hm, HM, hp⟩ := hrel
    have HP := Lib.hid hp
    clear hp
    by_cases hlt : k < l.length
    · obtain ⟨e, he⟩ : ∃ e, l[k]? = some e := ⟨l[k], List.getElem?_eq_getElem hlt⟩
      obtain ⟨g, cg, hv, d0, d1, d2, d3, d4, d5, d6, d7, _⟩ := (HL.out _ HP.out).cells he
      injection hv with hv1 hv2 hv3
      subst hv1
      have HE := Lib.hid he
      clear hv2 hv3
      obtain ⟨G, gc, hgv, _⟩ := ((HL.out _ HP.out).got e (List.mem_of_getElem? he)).1
      rw [hgv] at d6
      have HC := Lib.hid (count_succ l k e he)
      clear hgv he
      have P1 := Lib.hid (HP.out.alloc (.cells #[.int .i64 e.thread, .int .i64 e.frags, .int .i64 e.spine, .int .i64 e.state, .int .i64 e.cycles, .int .i64 e.at_, .slice G e.got.length gc, .bool e.noted] 53))
      cases hw : isW e with
      | true =>
        have hs : (e.state == 0) = true := hw
        have HW := Lib.hid hw
        clear hw
        go_wp2_with fail
        go_roundw
        case rel => exact ⟨k + 1, m + 1, by omega, by first | rfl | simp, by first | rfl | simp, by omega, Lib.hid (by rw [HC.out, HW.out, ← HM.out]; rfl), P1.out⟩
        case measure => simp [intOf]; omega
      | false =>
        have hs : (e.state == 0) = false := hw
        have HW := Lib.hid hw
        clear hw
        go_wp2_with fail
        go_roundw
        case rel => exact ⟨k + 1, m, by omega, by first | rfl | simp, by first | rfl | simp, by omega, Lib.hid (by rw [HC.out, HW.out, ← HM.out]; rfl), P1.out⟩
        case measure => simp [intOf]; omega
    · obtain rfl : k = l.length := by omega
      go_wp2_with fail
      go_ret
      exact ⟨ret_i (by rw [HM.out, List.take_length]), HP.out⟩

/-- append onto a row of the call's own, as one step of a region that draws. -/
theorem step_app {P : Program} {ops : Array Oper} {o : Oper} {a : Act} {w : World} {K : Act → World → Prop} {Q : Exit → Act → World → Prop} {E : Prop} (hgd : o.guard = none) (s x : Operand) (t : TypeId)
    (ho : o.op = .call { callee := .builtin .append, args := #[s, x], argTypes := #[t, t] })
    (base : Nat) (e : TypeId) (i : TypeInfo) (z : Value) (size bytes : Nat) (ht : P.underlying t = some (.slice e)) (hi : P.info? e = some i) (hz : i.zero = some z)
    (hsize : i.size = size) (hby : i.bytes = bytes) (hzs : z.cells.size = size) (hsz : 0 < size)
    (v : Value) (n : Nat) (xs : List Value) (hs : a.eval s = v) (hown : w.ownsRow base e size v n xs)
    (A : Option Addr) (m c : Nat) (news : List Value) (hx : a.eval x = .slice A m c) (hsrc : Src w size A m news) (h1 : ∀ u ∈ news, u.oneCell' = true)
    (h63 : n + m ≤ maxLen) (hbytes : (n + m) * bytes ≤ 140737488355328) (hbase : base ≤ w.heap.size)
    (h : ∀ v' w', w'.ownsRow base e size v' (n + m) (xs ++ news) → w.grownBy w' v.ownBlock → (v'.ownBlock = v.ownBlock ∨ v'.ownBlock = some w.heap.size) → K (a.put o.dst v') w') :
    if Region.wanted o (yielded ops a.tmps) = true then Oper.wp P o a w K Q else E := by
  have hw : Region.wanted o (yielded ops a.tmps) = true := by simp [Region.wanted, hgd]
  rw [if_pos hw]
  obtain ⟨v', w', hr, h2, h3, h4⟩ := run_app (P := P) w base t o.type e i z size bytes ht hi hz hsize hby hzs hsz v n xs hown A m c news hsrc h1 h63 hbytes hbase
  unfold Oper.wp execOp
  simp only [ho, resolve, invoke, builtin, Sem.run_bind, Sem.run_pure, Result.andThen_ok, List.map_toArray, List.map_cons, List.map_nil, hs, hx, hr]
  exact h v' w' h2 h3 h4

theorem entry_info : (Try.prog.info? 53).map (fun i => (i.zero, i.size, i.bytes)) = some (some (.agg #[.int .i64 0, .int .i64 0, .int .i64 0, .int .i64 0, .int .i64 0, .int .i64 0, .slice none 0 0, .bool false]), 8, 80) := by kernel_rfl

theorem add_no (P : Nat) (v : Value) (l : List En) (e : En) (A : Option Addr) (n c : Nat) (w : World) (hl : LineOf w P v l) (hix : 0 ≤ ixI (isT e.thread) l) :
    Calls Try.prog 9 #[.pointer (some ⟨P, 0, none⟩), reqV e (.slice A n c)] w fun e' w' => e' = .returned (.bool false) ∧ Pure w w' := by
  have hp1 := (Only.refl (fun _ => False) w).alloc (.cells #[.int .i64 e.thread, .int .i64 e.frags, .int .i64 e.spine, .int .i64 e.state, .int .i64 e.cycles, .int .i64 e.at_, .slice A n c] 28)
  have HL := Lib.hid (hl.pure hp1)
  have P1 := Lib.hid hp1
  clear hl hp1
  go_enter Try.func9, Try.ntmps9
  go_wp2_with fail
  refine (of_any P v l e.thread _ HL.out).mono ?_
  generalize ixI (isT e.thread) l = ix at hix
  rintro e1 w2 ⟨rfl, hp2⟩
  have P2 := Lib.hid (Pure.then P1.out hp2)
  clear hp2
  go_wp2_with fail
  go_ret
  exact ⟨rfl, P2.out⟩

/-- The entry that Add makes of a request. -/
def fresh (e : En) : En := ⟨e.thread, e.frags, e.spine, 0, 0, -1, .slice none 0 0, [], false⟩

theorem Src.row (w : World) (e : TypeId) (cs : Array Value) (size m B : Nat) (hl : cs.size = m * size) (hB : w.heap.size = B) : Src (w.alloc (.cells cs e)) size (some ⟨B, 0, none⟩) m cs.toList := by
  subst hB
  refine ⟨by simpa using hl, fun _ => ⟨_, 0, rfl, fun j u hu => ?_⟩⟩
  rw [cell_of_row _ w.heap.size _ cs e (0, 0) (heap_alloc_new w _), Nat.zero_add]
  simpa using hu

/-- A row of entries is never the line's own block. -/
theorem line_ne {w : World} {P : Nat} {v : Value} (h : w.heap[P]? = some (.cells #[v] 50 (0, 0))) {base n : Nat} {u : Value} {xs : List Value} (ho : w.ownsRow base 53 8 u n xs) {k : Nat} (hk : u.ownBlock = some k) : k ≠ P := by
  rintro rfl
  rcases ho.2 with ⟨rfl, _⟩ | ⟨g, cap, cur, rfl, _, hg, _⟩
  · simp [Value.ownBlock] at hk
  · simp only [Value.ownBlock, Option.some.injEq] at hk
    subst hk
    rw [h] at hg
    simp at hg

/-- A line whose row was replaced by one with an entry more. -/
theorem LineOf.added {w w6 : World} {P : Nat} {v v6 : Value} {l : List En} {e : En} {q6 : Nat} (h : LineOf w P v l) (ho : Only (fun k => v.ownBlock = some k) w w6) (hown : w6.ownsRow 0 53 8 v6 (l.length + 1) (ens l ++ enCells (fresh e)))
    (hat : v6.ownBlock = v.ownBlock ∨ v6.ownBlock = some q6) (hq6 : w.heap.size ≤ q6) (hf : l.length ≤ 900) : LineOf (w6.setCell ⟨P, 0, none⟩ v6) P v6 (l ++ [fresh e]) := by
  have hP := (Array.getElem?_eq_some_iff.1 h.at_).1
  have at6 : w6.heap[P]? = some (.cells #[v] 50 (0, 0)) := (ho.block P hP (fun e' => line_ne h.at_ h.own e' rfl)).trans h.at_
  have hoS : Only (LineS P v) w (w6.setCell ⟨P, 0, none⟩ v6) := (ho.mono (fun _ _ hk => .inr hk)).setCell (p := ⟨P, 0, none⟩) (fun _ => .inl rfl) v6
  have ho2 : Only (fun q => q = P) w6 (w6.setCell ⟨P, 0, none⟩ v6) := only_set (Only.refl _ w6) 0 v6
  refine ⟨by simp [World.setCell, Array.getElem?_modify, at6], ?_, fun e' he' => ?_, ?_, fun e' he' => ?_⟩
  · rw [ens_append, show ens [fresh e] = enCells (fresh e) from by simp [ens], show (l ++ [fresh e]).length = l.length + 1 from by simp]
    exact ho2.own hown (fun k hk => line_ne at6 hown hk)
  · rcases List.mem_append.1 he' with he' | he'
    · refine ⟨(h.got e' he').1.only hoS (fun q hq => ((h.got e' he').2 q hq).1), fun q hq => ⟨?_, Nat.lt_of_lt_of_le ((h.got e' he').2 q hq).2 hoS.size⟩⟩
      rintro (rfl | hq')
      · exact ((h.got e' he').2 _ hq).1 (.inl rfl)
      · rcases hat with hat | hat
        · exact ((h.got e' he').2 _ hq).1 (.inr (hat ▸ hq'))
        · rw [hat] at hq'
          have := ((h.got e' he').2 _ hq).2
          injection hq' with hq'
          omega
    · simp only [List.mem_singleton] at he'
      subst he'
      exact ⟨SlI.nil _ _, fun q hq => by simp [fresh, Value.ownBlock] at hq⟩
  · simp; omega
  · rcases List.mem_append.1 he' with he' | he'
    · exact h.short e' he'
    · simp only [List.mem_singleton] at he'
      subst he'
      simp [fresh]

theorem only_added {w w6 : World} {P : Nat} {v : Value} (v6 : Value) (ho : Only (fun k => v.ownBlock = some k) w w6) : Only (LineS P v) w (w6.setCell ⟨P, 0, none⟩ v6) := (ho.mono (fun _ _ hk => .inr hk)).setCell (p := ⟨P, 0, none⟩) (fun _ => .inl rfl) v6

set_option maxRecDepth 100000 in
set_option maxHeartbeats 1000000 in
theorem add_yes (P : Nat) (v : Value) (l : List En) (e : En) (A : Option Addr) (n c : Nat) (w : World) (hl : LineOf w P v l) (hix : ixI (isT e.thread) l = -1) (hf : l.length ≤ 900) :
    Calls Try.prog 9 #[.pointer (some ⟨P, 0, none⟩), reqV e (.slice A n c)] w fun e' w' => ∃ v', e' = .returned (.bool true) ∧ LineOf w' P v' (l ++ [fresh e]) ∧ Only (LineS P v) w w' ∧ (v'.ownBlock = v.ownBlock ∨ ∃ q, v'.ownBlock = some q ∧ w.heap.size ≤ q) := by
  obtain ⟨i0, hi0, hz0, hz1, hz2⟩ := info_parts entry_info
  have hp1 := (Only.refl (fun _ => False) w).alloc (.cells #[.int .i64 e.thread, .int .i64 e.frags, .int .i64 e.spine, .int .i64 e.state, .int .i64 e.cycles, .int .i64 e.at_, .slice A n c] 28)
  have hy := heap_alloc_new w (.cells #[.int .i64 e.thread, .int .i64 e.frags, .int .i64 e.spine, .int .i64 e.state, .int .i64 e.cycles, .int .i64 e.at_, .slice A n c] 28)
  have HL := Lib.hid (hl.pure hp1)
  have HY := Lib.hid hy
  have P1 := Lib.hid hp1
  have HIX := Lib.hid hix
  have HLT := Lib.hid hl.lt
  have HGQ := Lib.hid (fun (e' : En) (he' : e' ∈ l) (q : Nat) (hq : e'.gv.ownBlock = some q) => ((hl.got e' he').2 q hq).2)
  obtain ⟨AV, cV, rfl⟩ := hl.form
  clear hl hp1 hy hix
  go_enter Try.func9, Try.ntmps9
  go_wp2_with fail
  generalize w.alloc (.cells #[.int .i64 e.thread, .int .i64 e.frags, .int .i64 e.spine, .int .i64 e.state, .int .i64 e.cycles, .int .i64 e.at_, .slice A n c] 28) = W1 at *
  refine (of_any P _ l e.thread _ HL.out).mono ?_
  rw [HIX.out]
  rintro e1 w2 ⟨rfl, hp2⟩
  have P2 := Lib.hid (Pure.then P1.out hp2)
  have L2 := Lib.hid (HL.out.pure hp2)
  have hy2 := (hp2.block _ (Array.getElem?_eq_some_iff.1 HY.out).1 (fun f => f)).trans HY.out
  obtain ⟨y0, y1, y2, y3, y4, y5, y6, yf0, yf1, yf2, yf3, yf4, yf5, yf6⟩ := seven hy2
  have HY2 := Lib.hid hy2
  clear hp2 hy2
  go_wp2_with fail
  have ho3 : Only (fun q => q = w.heap.size) w2 ((((w2.setCell ⟨w.heap.size, 3, none⟩ (.int .i64 0)).setCell ⟨w.heap.size, 4, none⟩ (.int .i64 0)).setCell ⟨w.heap.size, 5, none⟩ (.int .i64 (-1))).setCell ⟨w.heap.size, 6, none⟩ (.slice none 0 0)) := only_set (only_set (only_set (only_set (Only.refl _ _) _ _) _ _) _ _) _ _
  have hy3 : (((((w2.setCell ⟨w.heap.size, 3, none⟩ (.int .i64 0)).setCell ⟨w.heap.size, 4, none⟩ (.int .i64 0)).setCell ⟨w.heap.size, 5, none⟩ (.int .i64 (-1))).setCell ⟨w.heap.size, 6, none⟩ (.slice none 0 0))).heap[w.heap.size]? = some (.cells #[.int .i64 e.thread, .int .i64 e.frags, .int .i64 e.spine, .int .i64 0, .int .i64 0, .int .i64 (-1), .slice none 0 0] 28 (0, 0)) := by
    simp [World.setCell, Array.getElem?_modify, HY2.out]
  have hl3 : LineOf (((((w2.setCell ⟨w.heap.size, 3, none⟩ (.int .i64 0)).setCell ⟨w.heap.size, 4, none⟩ (.int .i64 0)).setCell ⟨w.heap.size, 5, none⟩ (.int .i64 (-1))).setCell ⟨w.heap.size, 6, none⟩ (.slice none 0 0))) P (.slice AV l.length cV) l := L2.out.only ho3 (fun k hk e => by have := HLT.out k hk; omega) (fun e' he' q hq e => by have := HGQ.out e' he' q hq; omega)
  have P3 := Lib.hid (P2.out.trans ho3 (fun i hi e => by omega))
  clear y0 y1 y2 y3 y4 y5 y6 yf0 yf1 yf2 yf3 yf4 yf5 yf6
  generalize ((((w2.setCell ⟨w.heap.size, 3, none⟩ (.int .i64 0)).setCell ⟨w.heap.size, 4, none⟩ (.int .i64 0)).setCell ⟨w.heap.size, 5, none⟩ (.int .i64 (-1))).setCell ⟨w.heap.size, 6, none⟩ (.slice none 0 0)) = V3 at *
  have HO3 := Lib.hid ho3
  obtain ⟨y0, y1, y2, y3, y4, y5, y6, _⟩ := seven hy3
  have L3 := Lib.hid hl3
  have c0 : (V3.alloc (.cells #[.int .i64 e.thread, .int .i64 e.frags, .int .i64 e.spine, .int .i64 0, .int .i64 0, .int .i64 (-1), .slice none 0 0, .bool false] 53)).cell? ⟨P, 0, none⟩ = some (.slice AV l.length cV) := Pure.keep ((Only.refl (fun _ => False) V3).alloc _) hl3.c0
  have c0b : (V3.alloc (.cells #[.int .i64 e.thread, .int .i64 e.frags, .int .i64 e.spine, .int .i64 0, .int .i64 0, .int .i64 (-1), .slice none 0 0, .bool false] 53)).drew.cell? ⟨P, 0, none⟩ = some (.slice AV l.length cV) := c0
  have c0c : (V3.drew.alloc (.cells #[.int .i64 e.thread, .int .i64 e.frags, .int .i64 e.spine, .int .i64 0, .int .i64 0, .int .i64 (-1), .slice none 0 0, .bool false] 53)).cell? ⟨P, 0, none⟩ = some (.slice AV l.length cV) := c0
  have c0d : V3.drew.cell? ⟨P, 0, none⟩ = some (.slice AV l.length cV) := hl3.c0
  have c0e : V3.cell? ⟨P, 0, none⟩ = some (.slice AV l.length cV) := hl3.c0
  have lt0 : P < V3.heap.size := (Array.getElem?_eq_some_iff.1 hl3.at_).1
  have HP3 := Lib.hid hl3.at_
  clear ho3 hy3 hl3
  go_region_law ((first | (refine step_app rfl (.tmp 18) (.tmp 21) _ rfl 0 53 i0 _ 8 80 Try.underlying48 hi0 hz0 hz1 hz2 rfl (by omega) (.slice AV l.length cV) l.length (ens l) rfl (World.ownsRow.alloc (w := V3.drew) L3.out.own _) _ 1 1 (enCells (fresh e)) rfl (Src.row V3.drew _ #[.int .i64 e.thread, .int .i64 e.frags, .int .i64 e.spine, .int .i64 0, .int .i64 0, .int .i64 (-1), .slice none 0 0, .bool false] 8 1 _ rfl rfl) (by simp [enCells, fresh, Value.oneCell']) (by simp only [maxLen]; omega) (by omega) (by omega) ?_; intro v6 w6 hown6 hg6 hat6; obtain ⟨A6, c6, rfl⟩ := own_form hown6; have HO6 := Lib.hid (Only.grown (S := fun k => (Value.slice AV l.length cV).ownBlock = some k) ((show Only _ V3 V3.drew from ⟨rfl, rfl, rfl, Nat.le_refl _, fun _ _ _ => rfl⟩).alloc _) hg6 (fun k _ e => e)); have at6 := (HO6.out.block P (Array.getElem?_eq_some_iff.1 HP3.out).1 (fun e' => line_ne HP3.out L3.out.own e' rfl)).trans HP3.out; have s6 := cell_of_row w6 P 0 _ _ _ at6; have s6f := frozen_of_row w6 P 0 _ _ at6; have HAT6 := Lib.hid hat6; have OWN6 := Lib.hid hown6; clear hat6 hown6 hg6 at6)))
  all_goals
    go_wp2_with fail
    go_ret
    refine ⟨_, rfl, LineOf.added L3.out HO6.out OWN6.out HAT6.out (by simp) hf, (P3.out.mono (fun _ _ f => f.elim)).trans (only_added (P := P) _ HO6.out) (fun _ _ h => h), ?_⟩
    rcases HAT6.out with h | h
    · exact .inl h
    · exact .inr ⟨_, h, by have := P3.out.size; simp; omega⟩

end Go.Proofs.Ytmpomkejmokdlaa
