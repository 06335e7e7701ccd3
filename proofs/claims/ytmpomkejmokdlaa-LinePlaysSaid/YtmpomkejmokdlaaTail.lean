/-
  A slice of whole numbers that lies anywhere in a block of the call's own ('order = order[1:]'): it reads as a list, its spare cells may be written; append of one number; its tail.
  No function of the program is walked here.
-/
import Derived.Test.YtmpomkejmokdlaaReg
import Derived.ArgAppend
import Derived.Deep.MidRow
namespace Go.Proofs.Ytmpomkejmokdlaa
open Go.RowKit

def InR (xs : List Int) : Prop := ∀ x ∈ xs, -9223372036854775808 ≤ x ∧ x ≤ 9223372036854775807
/-- The slice v reads as the list xs; its block is the call's own (from base on); its capacity's cells are there and may be written. -/
def TailI (w : World) (base : Nat) (v : Value) (xs : List Int) : Prop :=
  ∃ (A : Option Addr) (c : Nat), v = .slice A xs.length c ∧ xs.length ≤ c ∧ c ≤ maxLen ∧ InR xs ∧ (∀ k, v.ownBlock = some k → base ≤ k ∧ k < w.heap.size) ∧
    (0 < c → ∃ g off, A = some ⟨g, off, none⟩ ∧ (∀ j, j < xs.length → w.cell? ⟨g, off + j, none⟩ = some (.int .i64 (xs.getD j 0))) ∧ ∀ j, j < c → (w.cell? ⟨g, off + j, none⟩).isSome = true ∧ w.frozen? ⟨g, off + j, none⟩ = false)

section
variable {w w' : World} {base : Nat} {v : Value} {xs : List Int}
theorem TailI.form (h : TailI w base v xs) : ∃ A c, v = .slice A xs.length c ∧ xs.length ≤ c ∧ c ≤ maxLen := by
  obtain ⟨A, c, h1, h2, h3, _⟩ := h
  exact ⟨A, c, h1, h2, h3⟩
theorem TailI.lt (h : TailI w base v xs) : ∀ k, v.ownBlock = some k → base ≤ k ∧ k < w.heap.size := by
  obtain ⟨_, _, _, _, _, _, h, _⟩ := h
  exact h
theorem TailI.rng (h : TailI w base v xs) : InR xs := by
  obtain ⟨_, _, _, _, _, h, _⟩ := h
  exact h
theorem TailI.nil (w : World) (base : Nat) : TailI w base (.slice none 0 0) [] :=
  ⟨none, 0, rfl, Nat.le_refl _, by simp [maxLen], fun x hx => by simp at hx, fun k hk => by simp [Value.ownBlock] at hk, fun h => by omega⟩
theorem TailI.only {S : Nat → Prop} (h : TailI w base v xs) (ho : Only S w w') (hn : ∀ k, v.ownBlock = some k → ¬ S k) : TailI w' base v xs := by
  obtain ⟨A, c, rfl, h1, h2, h3, h4, h5⟩ := h
  refine ⟨A, c, rfl, h1, h2, h3, fun k hk => ⟨(h4 k hk).1, Nat.lt_of_lt_of_le (h4 k hk).2 ho.size⟩, fun hc => ?_⟩
  obtain ⟨g, off, rfl, hx, hs⟩ := h5 hc
  have hg := (h4 g rfl).2
  have hb := ho.block g hg (hn g rfl)
  refine ⟨g, off, rfl, fun j hj => (ho.cell (p := ⟨g, off + j, none⟩) hg (hn g rfl)).trans (hx j hj), fun j hj => ?_⟩
  rw [ho.cell (p := ⟨g, off + j, none⟩) hg (hn g rfl), World.frozen?_of_block (a := ⟨g, off + j, none⟩) hb]
  exact hs j hj
theorem TailI.pure (h : TailI w base v xs) (hp : Pure w w') : TailI w' base v xs := h.only hp (fun _ _ f => f)
theorem TailI.sl (h : TailI w base v xs) : SlI w w.heap.size v xs := by
  obtain ⟨A, c, rfl, h1, h2, h3, h4, h5⟩ := h
  refine ⟨A, c, rfl, h1, h2, h3, fun hp => ?_⟩
  obtain ⟨g, off, rfl, hx, _⟩ := h5 (by omega)
  exact ⟨g, off, rfl, (h4 g rfl).2, hx⟩
theorem TailI.mono {base' : Nat} (h : TailI w base v xs) (hb : base' ≤ base) : TailI w base' v xs := by
  obtain ⟨A, c, rfl, h1, h2, h3, h4, h5⟩ := h
  exact ⟨A, c, rfl, h1, h2, h3, fun k hk => ⟨Nat.le_trans hb (h4 k hk).1, (h4 k hk).2⟩, h5⟩
theorem TailI.of_own {e : TypeId} (h : w.ownsRow base e 1 v xs.length (ints xs)) (hr : InR xs) : TailI w base v xs := by
  rcases h.2 with ⟨rfl, h0⟩ | ⟨g, cap, cur, rfl, hb, hg, hn, hm, hs, ht⟩
  · obtain rfl : xs = [] := List.eq_nil_of_length_eq_zero h0
    exact TailI.nil w base
  · refine ⟨_, cap, rfl, hn, hm, hr, fun k hk => h.lt k hk, fun _ => ⟨g, 0, rfl, fun j hj => ?_, fun j hj => ?_⟩⟩
    · rw [Nat.zero_add, h.cellAt j (by omega), ints, List.getElem?_map, List.getElem?_eq_getElem hj]
      simp [List.getD, hj]
    · rw [Nat.zero_add, cell_of_row w g j cur e (0, 0) hg, frozen_of_row w g j cur e hg, Array.getElem?_eq_getElem (by omega)]
      exact ⟨rfl, rfl⟩
/-- The tail of a list that is not empty, as the walk has it. -/
theorem TailI.tail {A : Option Addr} {c n : Nat} {x : Int} {xs : List Int} (h : TailI w base (.slice A n c) (x :: xs)) (g off : Nat) (hA : A = some ⟨g, off, none⟩) :
    TailI w base (.slice (if c = 1 then some ⟨g, off, none⟩ else some ⟨g, off + 1, none⟩) (n - 1) (c - 1)) xs := by
  obtain ⟨A', c', hv, h1, h2, h3, h4, h5⟩ := h
  injection hv with hv1 hv2 hv3
  subst hv1 hv2 hv3 hA
  simp only [List.length_cons] at h1 h5
  obtain ⟨g', off', e, hx, hs⟩ := h5 (by omega)
  injection e with e
  injection e with e1 e2
  subst e1 e2
  refine ⟨_, c - 1, by rw [List.length_cons, Nat.add_sub_cancel], by omega, by omega, fun y hy => h3 y (List.mem_cons_of_mem _ hy), fun k hk => ?_, fun hc => ?_⟩
  · have : k = g := by
      split at hk <;> (injection hk with hk; exact hk.symm)
    subst this
    exact h4 k rfl
  · rw [if_neg (by omega)]
    refine ⟨g, off + 1, rfl, fun j hj => ?_, fun j hj => ?_⟩
    · rw [show off + 1 + j = off + (j + 1) from by omega, hx (j + 1) (by omega)]
      rfl
    · rw [show off + 1 + j = off + (j + 1) from by omega]
      exact hs (j + 1) (by omega)

theorem only_setCells (g : Nat) : ∀ (vs : List Value) (o : Nat) (w : World), Only (fun q => q = g) w (w.setCells g o vs)
  | [], _, w => Only.refl _ w
  | u :: vs, o, w => ((Only.refl (fun q => q = g) w).setCell (p := ⟨g, o, none⟩) (fun _ => rfl) u).trans (only_setCells g vs (o + 1) _) (fun _ _ h => h)

/-- One number more. -/
theorem run_tail {P : Program} (t ty e : TypeId) (i : TypeInfo) (z : Value) (ht : P.underlying t = some (.slice e)) (hi : P.info? e = some i) (hz : i.zero = some z)
    (hsize : i.size = 1) (hby : i.bytes = 8) (hzs : z.cells.size = 1) (h : TailI w base v xs) (ad : Addr) (c : Nat) (x : Int) (hx : w.cell? ad = some (.int .i64 x)) (hr : -9223372036854775808 ≤ x ∧ x ≤ 9223372036854775807)
    (hn : xs.length ≤ 1000000) (hbase : base ≤ w.heap.size) :
    ∃ v' w', (Builtin.append_ #[t, t] ty #[v, .slice (some ad) 1 c]).run P w = .ok v' w' ∧ TailI w' base v' (xs ++ [x]) ∧ Only (fun k => v.ownBlock = some k) w w' ∧ ∀ k, v'.ownBlock = some k → v.ownBlock = some k ∨ w.heap.size ≤ k := by
  have hrr : InR xs := h.rng
  have hr' : InR (xs ++ [x]) := fun y hy => by
    rcases List.mem_append.1 hy with hy | hy
    · exact hrr y hy
    · simp at hy; subst hy; exact hr
  have hnews : ∀ (j : Nat) (u : Value), (ints [x])[j]? = some u → w.cell? (ad.add j) = some u := by
    intro j u hu
    obtain ⟨hj, rfl⟩ := ints_get [x] j u hu
    obtain rfl : j = 0 := by simpa using hj
    have : ad.add 0 = ad := by cases ad; simp [Addr.add]
    rw [this]
    exact hx
  obtain ⟨A, cap, rfl, h1, h2, h3, h4, h5⟩ := id h
  -- whatever way lays a new row
  have fresh : ∀ v' w', w'.ownsRow w.heap.size e 1 v' (xs.length + 1) (ints xs ++ ints [x]) → w.grownBy w' none → TailI w' base v' (xs ++ [x]) ∧ Only (fun k => (Value.slice A xs.length cap).ownBlock = some k) w w' ∧ ∀ k, v'.ownBlock = some k → (Value.slice A xs.length cap).ownBlock = some k ∨ w.heap.size ≤ k := fun v' w' ho hg =>
    ⟨(TailI.of_own (xs := xs ++ [x]) (by rw [List.length_append, ints_append]; exact ho) hr').mono hbase, (Only.refl _ w).grown hg (fun k _ e => by cases e), fun k hk => .inr (ho.lt k hk).1⟩
  by_cases hfull : cap < xs.length + 1
  · rcases A with _ | a'
    · have h0 : cap = 0 := by
        rcases Nat.eq_zero_or_pos cap with h0 | h0
        · exact h0
        · obtain ⟨_, _, e', _⟩ := h5 h0
          cases e'
      subst h0
      obtain rfl : xs = [] := List.eq_nil_of_length_eq_zero (by omega)
      obtain ⟨v', w', hrun, ho, hg, _⟩ := run_append_own (P := P) w w.heap.size t ty e i z 1 8 ht hi hz hsize hby hzs (by omega) (.slice none 0 0) 0 [] (World.ownsRow_nil w _ e 1) ad 1 c (ints [x]) (by simp [ints]) hnews (ints_one _) (by simp [maxLen]) (by omega) (Nat.le_refl _)
      exact ⟨v', w', hrun, fresh v' w' (by simpa [ints] using ho) hg⟩
    · obtain ⟨v', w', hrun, ho, hg⟩ := run_append_arg_grows (P := P) w t ty e i z 1 8 ht hi hz hsize hby hzs (by omega) a' xs.length cap (ints xs) (by rw [ints_length]; omega) (fun j u hu => by
        obtain ⟨hj, rfl⟩ := ints_get xs j u hu
        obtain ⟨g, off, e', hc, _⟩ := h5 (by omega)
        injection e' with e'
        subst e'
        rw [Addr.add_lit]
        exact hc j hj) ad 1 c (ints [x]) (by simp [ints]) hnews hfull (by simp only [maxLen]; omega) (by omega)
      exact ⟨v', w', hrun, fresh v' w' ho hg⟩
  · obtain ⟨g, off, rfl, hc, hs⟩ := h5 (by omega)
    have hrun := run_append_room_cells (P := P) w t ty e i ht hi g off xs.length cap ad 1 c (ints [x]) (by simp [ints, hsize]) hnews (ints_one _) (by omega)
      (fun j hj => by
        obtain rfl : j = 0 := by simpa [ints] using hj
        rw [hsize, Nat.mul_one, Nat.add_zero]
        exact (hs xs.length (by omega)).1)
      (fun j hj => by
        obtain rfl : j = 0 := by simpa [ints] using hj
        rw [hsize, Nat.mul_one, Nat.add_zero]
        exact (hs xs.length (by omega)).2)
    rw [hsize, Nat.mul_one] at hrun
    have hO := only_setCells g (ints [x]) (off + xs.length) w
    refine ⟨_, _, hrun, ⟨_, cap, by rw [List.length_append]; rfl, by rw [List.length_append]; simp; omega, h2, hr', fun k hk => ⟨(h4 k hk).1, Nat.lt_of_lt_of_le (h4 k hk).2 hO.size⟩, fun _ => ⟨g, off, rfl, fun j hj => ?_, fun j hj => ?_⟩⟩, hO.mono (fun k _ e => by subst e; rfl), fun k hk => .inl hk⟩
    · rw [List.length_append, List.length_singleton] at hj
      by_cases hlt : j < xs.length
      · rw [World.cell?_setCells_out g _ _ _ _ (fun _ _ => .inl (by show off + j < off + xs.length; omega)), hc j hlt]
        rw [List.getD_eq_getElem?_getD, List.getD_eq_getElem?_getD, List.getElem?_append_left hlt]
      · obtain rfl : j = xs.length := by omega
        have := World.cell?_setCells_in g (ints [x]) (off + xs.length) w (fun j hj => by
          obtain rfl : j = 0 := by simpa [ints] using hj
          exact (hs xs.length (by omega)).1) 0 (by simp [ints])
        rw [Nat.add_zero] at this
        rw [this]
        simp [ints]
    · exact ⟨World.isSome_setCells g _ _ _ _ (hs j hj).1, (World.frozen?_setCells g _ _ _ _).trans (hs j hj).2⟩

theorem wpList_tail {P : Program} (w : World) {ops : Array Oper} {rest : List Oper} {o : Oper} {a : Act} {Q : Exit → Act → World → Prop} (hgd : o.guard = none) (s y : Operand) (t : TypeId)
    (ho : o.op = .call { callee := .builtin .append, args := #[s, y], argTypes := #[t, t] })
    (e : TypeId) (i : TypeInfo) (z : Value) (ht : P.underlying t = some (.slice e)) (hi : P.info? e = some i) (hz : i.zero = some z) (hsize : i.size = 1) (hby : i.bytes = 8) (hzs : z.cells.size = 1)
    {base : Nat} (v : Value) {xs : List Int} (hs : a.eval s = v) (h : TailI w base v xs) (ad : Addr) (c : Nat) (x : Int) (hy : a.eval y = .slice (some ad) 1 c) (hx : w.cell? ad = some (.int .i64 x)) (hr : -9223372036854775808 ≤ x ∧ x ≤ 9223372036854775807)
    (hn : xs.length ≤ 1000000) (hbase : base ≤ w.heap.size)
    (hK : ∀ v' w', TailI w' base v' (xs ++ [x]) → Only (fun k => v.ownBlock = some k) w w' → (∀ k, v'.ownBlock = some k → v.ownBlock = some k ∨ w.heap.size ≤ k) → wpList P ops Q rest (a.put o.dst v') w') : wpList P ops Q (o :: rest) a w :=
  wpList_plain hgd fun _ hK' => by
    obtain ⟨v', w', hr, h2, h3, h4⟩ := run_tail (P := P) t o.type e i z ht hi hz hsize hby hzs h ad c x hx hr hn hbase
    unfold Oper.wp execOp
    simp only [ho, resolve, invoke, builtin, Sem.run_bind, Sem.run_pure, Result.andThen_ok, List.map_toArray, List.map_cons, List.map_nil, hs, hy, hr]
    exact hK' _ _ (hK v' w' h2 h3 h4)
end
end Go.Proofs.Ytmpomkejmokdlaa
