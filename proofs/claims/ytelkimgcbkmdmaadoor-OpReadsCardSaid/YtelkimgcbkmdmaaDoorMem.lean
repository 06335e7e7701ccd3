/-
  Words for the memory that these walks read and write: what a call may have changed ('Only'); a slice of whole numbers that reads as a list ('SlI'); append onto a row of the call's own, whatever the source ('run_app', 'wpList_app').
  No function of the program is walked here.
-/
import Derived.Test.YtelkimgcbkmdmaaDoorLift
import Derived.Deep.Draws
import Derived.Deep.QuietTactic
import Derived.BigQuiet
import Derived.Lib.Hide
import Derived.Outline
import Derived.Maps.AppendAt
import Derived.Deep.AppendLies
import Derived.Deep.RegionHeld3
import Derived.Deep.Slices
import Derived.Lib.SmallJoins
import Derived.WalkSpells
import Derived.WalkLawsBesides
import Derived.Handy
namespace Go.Proofs.YtelkimgcbkmdmaaDoor
open Go.RowKit

/-! ### What may have changed -/
/-- Of the blocks that there were, only those in S may have changed; new ones may have come. -/
structure Only (S : Nat → Prop) (w w' : World) : Prop where
  os : w'.os = w.os
  tape : w'.tape = w.tape
  output : w'.output = w.output
  size : w.heap.size ≤ w'.heap.size
  block : ∀ k, k < w.heap.size → ¬ S k → w'.heap[k]? = w.heap[k]?

section
variable {S T : Nat → Prop} {a b c w w' : World}
theorem Only.refl (S : Nat → Prop) (w : World) : Only S w w := ⟨rfl, rfl, rfl, Nat.le_refl _, fun _ _ _ => rfl⟩
theorem Only.mono (h : Only S a b) (hs : ∀ k, k < a.heap.size → S k → T k) : Only T a b := ⟨h.os, h.tape, h.output, h.size, fun k hk hn => h.block k hk (fun hs' => hn (hs k hk hs'))⟩
/-- Two steps: the second may change, beside S, what the first has made. -/
theorem Only.trans (h : Only S a b) (k : Only T b c) (hs : ∀ i, i < a.heap.size → T i → S i) : Only S a c :=
  ⟨k.os.trans h.os, k.tape.trans h.tape, k.output.trans h.output, Nat.le_trans h.size k.size,
    fun i hi hn => (k.block i (Nat.lt_of_lt_of_le hi h.size) (fun ht => hn (hs i hi ht))).trans (h.block i hi hn)⟩
theorem Only.drewN (h : Only S a w) (n : Nat) : Only S a (w.drewN n) := ⟨h.os, h.tape, h.output, h.size, h.block⟩
theorem Only.alloc (h : Only S a w) (o : Obj) : Only S a (w.alloc o) :=
  ⟨h.os, h.tape, h.output, Nat.le_trans h.size (by simp), fun k hk hn => (Below.heap_alloc w o k (Nat.lt_of_lt_of_le hk h.size)).trans (h.block k hk hn)⟩
theorem Only.setCell (h : Only S a w) {p : Addr} (hp : p.block < a.heap.size → S p.block) (u : Value) : Only S a (w.setCell p u) :=
  ⟨h.os, h.tape, h.output, by simpa [World.setCell] using h.size, fun k hk hn => (Below.heap_setCell w p u k (fun e => hn (by subst e; exact hp hk))).trans (h.block k hk hn)⟩
theorem Only.grown (h : Only S a w) {row : Option Nat} (hg : w.grownBy w' row) (hr : ∀ k, k < a.heap.size → row = some k → S k) : Only S a w' :=
  ⟨hg.os.trans h.os, hg.tape.trans h.tape, hg.output.trans h.output, Nat.le_trans h.size hg.size,
    fun k hk hn => (hg.block k (Nat.lt_of_lt_of_le hk h.size) (fun e => hn (hr k hk e.symm))).trans (h.block k hk hn)⟩
theorem Only.below (h : Only S a w) {B : Nat} (hB : B ≤ a.heap.size) (hs : ∀ k, k < a.heap.size → S k → B ≤ k) : Below B a w :=
  ⟨h.os, h.tape, h.output, h.size, fun k hk => h.block k (by omega) (fun hs' => by have := hs k (by omega) hs'; omega)⟩
theorem Only.of_below (h : Below a.heap.size a w) (S : Nat → Prop) : Only S a w := ⟨h.os, h.tape, h.output, h.size, fun k hk _ => h.block k hk⟩
theorem Only.cell (h : Only S a w) {p : Addr} (hp : p.block < a.heap.size) (hn : ¬ S p.block) : w.cell? p = a.cell? p := World.cell?_of_block (w := a) (h.block p.block hp hn)
theorem Only.own (h : Only S a w) {base : Nat} {e : TypeId} {size n : Nat} {v : Value} {xs : List Value} (ho : a.ownsRow base e size v n xs) (hn : ∀ k, v.ownBlock = some k → ¬ S k) : w.ownsRow base e size v n xs := by
  refine ⟨ho.1, ?_⟩
  rcases ho.2 with h0 | ⟨g, cap, cur, rfl, hb, hg, rest⟩
  · exact .inl h0
  · exact .inr ⟨g, cap, cur, rfl, hb, by rw [h.block g (Array.getElem?_eq_some_iff.1 hg).1 (hn g rfl)]; exact hg, rest⟩
end

theorem own_form {w : World} {base : Nat} {e : TypeId} {size n : Nat} {v : Value} {xs : List Value} (h : w.ownsRow base e size v n xs) : ∃ A c, v = .slice A n c := by
  rcases h.2 with ⟨rfl, rfl⟩ | ⟨g, cap, cur, rfl, _⟩
  · exact ⟨_, _, rfl⟩
  · exact ⟨_, _, rfl⟩

/-- Nothing that there was has changed. -/
abbrev Pure (w w' : World) : Prop := Only (fun _ => False) w w'
theorem Pure.then {a b c : World} (h : Pure a b) (k : Pure b c) : Pure a c := h.trans k (fun _ _ f => f)
theorem Pure.below {w w' : World} (h : Pure w w') : Below w.heap.size w w' := Only.below h (Nat.le_refl _) (fun _ _ f => f.elim)
theorem below_drewN {B : Nat} {a w : World} (h : Below B a w) (n : Nat) : Below B a (w.drewN n) := ⟨h.os, h.tape, h.output, h.size, h.block⟩

/-! ### Slices of whole numbers -/
/-- The value v is a slice of ints that reads as the list xs in the world w, in blocks below B. -/
def SlI (w : World) (B : Nat) (v : Value) (xs : List Int) : Prop :=
  ∃ (A : Option Addr) (c : Nat), v = .slice A xs.length c ∧ xs.length ≤ c ∧ c ≤ maxLen ∧ (∀ x ∈ xs, -9223372036854775808 ≤ x ∧ x ≤ 9223372036854775807) ∧
    (0 < xs.length → ∃ b off, A = some ⟨b, off, none⟩ ∧ b < B ∧ ∀ j, j < xs.length → w.cell? ⟨b, off + j, none⟩ = some (.int .i64 (xs.getD j 0)))

theorem SlI.keep {w w' : World} {B : Nat} {v : Value} {xs : List Int} (h : SlI w B v xs) (hb : ∀ b o, b < B → v.ownBlock = some b → w'.cell? ⟨b, o, none⟩ = w.cell? ⟨b, o, none⟩) : SlI w' B v xs := by
  obtain ⟨A, c, rfl, h1, h2, h3, h4⟩ := h
  refine ⟨A, c, rfl, h1, h2, h3, fun hp => ?_⟩
  obtain ⟨b, off, rfl, hlt, hc⟩ := h4 hp
  exact ⟨b, off, rfl, hlt, fun j hj => (hb b (off + j) hlt rfl).trans (hc j hj)⟩
theorem SlI.below {w w' : World} {B : Nat} {v : Value} {xs : List Int} (h : SlI w B v xs) (hb : Below B w w') : SlI w' B v xs :=
  h.keep fun b _ hlt _ => hb.cell (p := ⟨b, _, none⟩) hlt
theorem SlI.only {w w' : World} {S : Nat → Prop} {v : Value} {xs : List Int} (h : SlI w w.heap.size v xs) (ho : Only S w w') (hn : ∀ k, v.ownBlock = some k → ¬ S k) : SlI w' w'.heap.size v xs := by
  have h2 : SlI w' w.heap.size v xs := h.keep fun b _ hlt hv => ho.cell (p := ⟨b, _, none⟩) hlt (hn b hv)
  obtain ⟨A, c, rfl, h1, h2, h3, h4⟩ := h2
  refine ⟨A, c, rfl, h1, h2, h3, fun hp => ?_⟩
  obtain ⟨b, off, e, hlt, hc⟩ := h4 hp
  exact ⟨b, off, e, Nat.lt_of_lt_of_le hlt ho.size, hc⟩
theorem SlI.mono {w : World} {B B' : Nat} {v : Value} {xs : List Int} (h : SlI w B v xs) (hB : B ≤ B') : SlI w B' v xs := by
  obtain ⟨A, c, rfl, h1, h2, h3, h4⟩ := h
  refine ⟨A, c, rfl, h1, h2, h3, fun hp => ?_⟩
  obtain ⟨b, off, e, hlt, hc⟩ := h4 hp
  exact ⟨b, off, e, by omega, hc⟩
theorem SlI.nil (w : World) (B : Nat) : SlI w B (.slice none 0 0) [] := ⟨none, 0, rfl, Nat.le_refl _, by simp [maxLen], by simp, by simp⟩
theorem SlI.len {w : World} {B : Nat} {v : Value} {xs : List Int} (h : SlI w B v xs) : ∃ A c, v = .slice A xs.length c ∧ xs.length ≤ c ∧ c ≤ 9223372036854775807 := by
  obtain ⟨A, c, h, h1, h2, _⟩ := h
  exact ⟨A, c, h, h1, by simpa [maxLen] using h2⟩

/-- Ints as values. -/
def ints (xs : List Int) : List Value := xs.map (Value.int .i64)
theorem ints_append (xs ys : List Int) : ints (xs ++ ys) = ints xs ++ ints ys := by simp [ints]
theorem ints_length (xs : List Int) : (ints xs).length = xs.length := by simp [ints]
theorem ints_set (xs : List Int) (j : Nat) (x : Int) : (ints xs).set j (.int .i64 x) = ints (xs.set j x) := by simp [ints, List.map_set]
theorem ints_one (xs : List Int) : ∀ u ∈ ints xs, u.oneCell' = true := by
  intro u hu
  simp only [ints, List.mem_map] at hu
  obtain ⟨x, _, rfl⟩ := hu
  rfl
theorem ints_get (xs : List Int) (j : Nat) (u : Value) (h : (ints xs)[j]? = some u) : j < xs.length ∧ u = .int .i64 (xs.getD j 0) := by
  simp only [ints, List.getElem?_map, Option.map_eq_some_iff] at h
  obtain ⟨x, hx, rfl⟩ := h
  exact ⟨(List.getElem?_eq_some_iff.1 hx).1, by simp [List.getD_eq_getElem?_getD, hx]⟩
theorem getD_mem (xs : List Int) (i : Nat) (h : i < xs.length) : xs.getD i 0 ∈ xs := by
  rw [List.getD_eq_getElem?_getD, List.getElem?_eq_getElem h]
  exact List.getElem_mem h

/-- What the call owns reads as a list. -/
theorem SlI.of_own {w : World} {base : Nat} {e : TypeId} {n : Nat} {v : Value} {xs : List Int} (h : w.ownsRow base e 1 v n (ints xs)) (hx : ∀ x ∈ xs, -9223372036854775808 ≤ x ∧ x ≤ 9223372036854775807) : SlI w w.heap.size v xs := by
  have hl : xs.length = n := by have := h.1; rw [ints_length] at this; omega
  rcases h.2 with ⟨rfl, rfl⟩ | ⟨g, cap, cur, rfl, hb, hg, hnc, hcm, hcs, ht⟩
  · obtain rfl : xs = [] := List.eq_nil_of_length_eq_zero hl
    exact SlI.nil _ _
  · subst hl
    refine ⟨_, cap, rfl, hnc, hcm, hx, fun hp => ⟨g, 0, rfl, (Array.getElem?_eq_some_iff.1 hg).1, fun j hj => ?_⟩⟩
    rw [Nat.zero_add, cell_of_row w g j cur e (0, 0) hg]
    have : (cur.toList.take (xs.length * 1))[j]? = (ints xs)[j]? := by rw [ht]
    rw [List.getElem?_take, if_pos (by omega), Array.getElem?_toList] at this
    rw [this]
    simp [ints, List.getElem?_eq_getElem hj]

/-! ### append onto a row of the call's own: the source may be nil, empty or not -/
section
variable {P : Program} (w : World)
/-- The cells that a slice value covers. -/
def Src (w : World) (size : Nat) (A : Option Addr) (m : Nat) (news : List Value) : Prop :=
  news.length = m * size ∧ (0 < m → ∃ b off, A = some ⟨b, off, none⟩ ∧ ∀ j u, news[j]? = some u → w.cell? ⟨b, off + j, none⟩ = some u)

theorem Src.keep {w w' : World} {size m : Nat} {A : Option Addr} {news : List Value} (h : Src w size A m news) (hk : ∀ ad : Addr, A = some ad → 0 < m → ∀ o, w'.cell? ⟨ad.block, o, none⟩ = w.cell? ⟨ad.block, o, none⟩) : Src w' size A m news :=
  ⟨h.1, fun hm => by
    obtain ⟨b, off, rfl, hc⟩ := h.2 hm
    exact ⟨b, off, rfl, fun j u hu => (hk _ rfl hm _).trans (hc j u hu)⟩⟩
theorem Src.below {w w' : World} {B size m : Nat} {A : Option Addr} {news : List Value} (h : Src w size A m news) (hb : Below B w w') (hlt : ∀ ad : Addr, 0 < m → A = some ad → ad.block < B) : Src w' size A m news :=
  h.keep fun ad e hm o => hb.cell (p := ⟨ad.block, o, none⟩) (hlt ad hm e)

theorem run_app (base : Nat) (t ty e : TypeId) (i : TypeInfo) (z : Value) (size bytes : Nat) (ht : P.underlying t = some (.slice e)) (hi : P.info? e = some i) (hz : i.zero = some z)
    (hsize : i.size = size) (hby : i.bytes = bytes) (hzs : z.cells.size = size) (hsz : 0 < size)
    (v : Value) (n : Nat) (xs : List Value) (hown : w.ownsRow base e size v n xs)
    (A : Option Addr) (m c : Nat) (news : List Value) (hs : Src w size A m news) (h1 : ∀ u ∈ news, u.oneCell' = true)
    (h63 : n + m ≤ maxLen) (hbytes : (n + m) * bytes ≤ 140737488355328) (hbase : base ≤ w.heap.size) :
    ∃ v' w', (Builtin.append_ #[t, t] ty #[v, .slice A m c]).run P w = .ok v' w' ∧ w'.ownsRow base e size v' (n + m) (xs ++ news) ∧ w.grownBy w' v.ownBlock ∧
      (v'.ownBlock = v.ownBlock ∨ v'.ownBlock = some w.heap.size) := by
  rcases A with _ | ad
  · have hm : m = 0 := by
      rcases Nat.eq_zero_or_pos m with h0 | h0
      · exact h0
      · obtain ⟨b, off, h, _⟩ := hs.2 h0
        cases h
    subst hm
    obtain rfl : news = [] := List.eq_nil_of_length_eq_zero (by have := hs.1; omega)
    refine ⟨v, w, ?_, by simpa using hown, World.grownBy.refl w _, .inl rfl⟩
    rcases hown.2 with ⟨rfl, rfl⟩ | ⟨g, cap, cur, rfl, _, _, hnc, _⟩
    · simp [Builtin.append_, run_underlying ht, sizeOf, typeInfo, hi, Builtin.lenOf, Builtin.firstCells]
    · simp [Builtin.append_, run_underlying ht, sizeOf, typeInfo, hi, Builtin.lenOf, Builtin.firstCells, hnc, storeCells]
  · have hc : ∀ j u, news[j]? = some u → w.cell? (ad.add j) = some u := by
      intro j u hu
      rcases Nat.eq_zero_or_pos m with rfl | hm
      · obtain rfl : news = [] := List.eq_nil_of_length_eq_zero (by have := hs.1; omega)
        simp at hu
      · obtain ⟨b, off, h, hc⟩ := hs.2 hm
        injection h with h
        subst h
        rw [Go.WideShapes.add_plain]
        exact hc j u hu
    obtain ⟨v', w', hr, h2, h3, _, h5⟩ := run_append_own_at (P := P) w base t ty e i z size bytes ht hi hz hsize hby hzs hsz v n xs hown ad m c news hs.1 hc h1 h63 hbytes hbase
    exact ⟨v', w', hr, h2, h3, h5⟩

theorem wpList_app {ops : Array Oper} {rest : List Oper} {o : Oper} {a : Act} {Q : Exit → Act → World → Prop} (hgd : o.guard = none) (s x : Operand) (t : TypeId)
    (ho : o.op = .call { callee := .builtin .append, args := #[s, x], argTypes := #[t, t] })
    (base : Nat) (e : TypeId) (i : TypeInfo) (z : Value) (size bytes : Nat) (ht : P.underlying t = some (.slice e)) (hi : P.info? e = some i) (hz : i.zero = some z)
    (hsize : i.size = size) (hby : i.bytes = bytes) (hzs : z.cells.size = size) (hsz : 0 < size)
    (v : Value) (n : Nat) (xs : List Value) (hs : a.eval s = v) (hown : w.ownsRow base e size v n xs)
    (A : Option Addr) (m c : Nat) (news : List Value) (hx : a.eval x = .slice A m c) (hsrc : Src w size A m news) (h1 : ∀ u ∈ news, u.oneCell' = true)
    (h63 : n + m ≤ maxLen) (hbytes : (n + m) * bytes ≤ 140737488355328) (hbase : base ≤ w.heap.size)
    (h : ∀ v' w', w'.ownsRow base e size v' (n + m) (xs ++ news) → w.grownBy w' v.ownBlock → (v'.ownBlock = v.ownBlock ∨ v'.ownBlock = some w.heap.size) → wpList P ops Q rest (a.put o.dst v') w') : wpList P ops Q (o :: rest) a w :=
  wpList_plain hgd fun _ hK => by
    obtain ⟨v', w', hr, h2, h3, h4⟩ := run_app (P := P) w base t o.type e i z size bytes ht hi hz hsize hby hzs hsz v n xs hown A m c news hsrc h1 h63 hbytes hbase
    unfold Oper.wp execOp
    simp only [ho, resolve, invoke, builtin, Sem.run_bind, Sem.run_pure, Result.andThen_ok, List.map_toArray, List.map_cons, List.map_nil, hs, hx, hr]
    exact hK _ _ (h v' w' h2 h3 h4)

theorem SlI.src {B : Nat} {A : Option Addr} {m c : Nat} {xs : List Int} {w : World} (h : SlI w B (.slice A m c) xs) : m = xs.length ∧ Src w 1 A m (ints xs) := by
  obtain ⟨A', c', e, h1, h2, h3, h4⟩ := h
  injection e with e1 e2 e3
  subst e1; subst e2
  refine ⟨rfl, by simp [ints_length], fun hm => ?_⟩
  obtain ⟨b, off, e, _, hc⟩ := h4 hm
  refine ⟨b, off, e, fun j u hu => ?_⟩
  obtain ⟨hj, rfl⟩ := ints_get xs j u hu
  exact hc j hj
end

/-- The new one-cell block that append stores its one number in. -/
theorem Src.one (w : World) (e : TypeId) (x : Int) (B : Nat) (hB : w.heap.size = B) : Src (w.alloc (.cells #[.int .i64 x] e)) 1 (some ⟨B, 0, none⟩) 1 (ints [x]) := by
  subst hB
  refine ⟨rfl, fun _ => ⟨_, 0, rfl, fun j u hu => ?_⟩⟩
  obtain ⟨hj, rfl⟩ := ints_get [x] j u hu
  obtain rfl : j = 0 := by simpa using hj
  rw [cell_of_row _ w.heap.size _ #[.int .i64 x] e (0, 0) (heap_alloc_new w _)]
  rfl

/-- The value v is a slice of one-cell elements that reads as the list vs in the world w, in blocks below B. -/
def SlG (w : World) (B : Nat) (v : Value) (vs : List Value) : Prop :=
  ∃ (A : Option Addr) (c : Nat), v = .slice A vs.length c ∧ vs.length ≤ c ∧ c ≤ 9223372036854775807 ∧
    (0 < vs.length → ∃ b off, A = some ⟨b, off, none⟩ ∧ b < B ∧ ∀ j u, vs[j]? = some u → w.cell? ⟨b, off + j, none⟩ = some u)
/-- Bools as values. -/
def bools (bs : List Bool) : List Value := bs.map Value.bool
theorem bools_length (bs : List Bool) : (bools bs).length = bs.length := by simp [bools]
theorem SlG.only {w w' : World} {S : Nat → Prop} {v : Value} {vs : List Value} (h : SlG w w.heap.size v vs) (ho : Only S w w') (hn : ∀ k, v.ownBlock = some k → ¬ S k) : SlG w' w'.heap.size v vs := by
  obtain ⟨A, c, rfl, h1, h2, h4⟩ := h
  refine ⟨A, c, rfl, h1, h2, fun hp => ?_⟩
  obtain ⟨b, off, rfl, hlt, hc⟩ := h4 hp
  exact ⟨b, off, rfl, Nat.lt_of_lt_of_le hlt ho.size, fun j u hu => (ho.cell (p := ⟨b, off + j, none⟩) hlt (hn b rfl)).trans (hc j u hu)⟩
theorem SlG.pure {w w' : World} {v : Value} {vs : List Value} (h : SlG w w.heap.size v vs) (ho : Pure w w') : SlG w' w'.heap.size v vs := h.only ho (fun _ _ f => f)

/-! ### Arguments -/
section
open Go.ChangeShapes Go.WideShapes Go.ChangeAt
variable {H : Type} {enc : TypeId × Value → H} {P : Program}
/-- An argument that is a slice of ints reads as a list. -/
theorem open_sl {W : World} {b0 base : Nat} {t e : TypeId} {v : Value} {d : DataW H} {ps : List MemPlace} {r : Reach} (ht : P.underlying t = some (.slice e)) (he : P.underlying e = some (.int .i64)) (hc : P.cellsOf e = 1)
    (hval : Value.okWide P W r b0 t v) (h : DataW.Trod enc P W base (fun _ => true) true t v d ps) : ∃ xs, SlI W W.heap.size v xs := by
  obtain ⟨a0, len, cap, rfl⟩ := okWide_slice ht hval
  obtain ⟨fuel, hf⟩ := h
  rcases open_ints ht he hc hf with ⟨hcs, _⟩ | ⟨a, len', cap', zs, hcs, _, hl, hm, hz, _, hcell, hwz⟩
  · have hcs' : [Value.slice a0 len cap] = [.slice none 0 0] := hcs
    injection hcs' with hcs'
    rw [hcs']
    exact ⟨[], SlI.nil _ _⟩
  · have hcs' : [Value.slice a0 len cap] = [.slice (some a) len' cap'] := hcs
    injection hcs' with hcs'
    rw [hcs']
    have hz' : zs.length = cap' := by simpa using hz
    have hl' : (zs.take len').length = len' := by rw [List.length_take]; omega
    refine ⟨zs.take len', some a, cap', by rw [hl'], by omega, hm, fun x hx => ?_, fun hp => ?_⟩
    · have hw := hwz x (List.mem_of_mem_take hx)
      simp [Lit.wf, IntKind.max, IntKind.min, IntKind.signed, IntKind.bits] at hw
      omega
    · obtain ⟨b, off, rfl, hc'⟩ := ints_at hcell (by omega)
      refine ⟨b, off, rfl, World.block_lt_of_cell? W ⟨b, off + 0, none⟩ (hc' 0 (by omega)), fun j hj => ?_⟩
      rw [hc' j (by omega)]
      simp only [List.getD_eq_getElem?_getD, List.getElem?_take]
      rw [if_pos (by omega)]
/-- A slice of bools, within whatever is read. -/
theorem open_bools {W : World} {t e : TypeId} {v : Value} {fuel : Nat} {x : DataW H × List MemPlace} {base : Nat} (ht : P.underlying t = some (.slice e)) (he : P.underlying e = some .bool) (hc : P.cellsOf e = 1)
    (h : DataW.trod enc P W base (fun _ => true) true fuel t [v] = some x) : ∃ bs : List Bool, SlG W W.heap.size v (bools bs) := by
  rcases Go.Deep.open_slice1 ht hc h with ⟨hcs, _⟩ | ⟨a, len, cap, m, n, V, D, Pl, hcs, _, hl, hm, hmm, _, hx⟩
  · injection hcs with hcs
    rw [hcs]
    exact ⟨[], none, 0, rfl, Nat.le_refl _, by omega, fun h => by simp [bools] at h⟩
  · injection hcs with hcs
    subst hcs
    have hm' : m = cap := by simpa using hmm
    have hb : ∀ i, i < len → ∃ b : Bool, V i = .bool b := by
      intro i hi
      obtain ⟨_, h2⟩ := hx i (by omega)
      obtain ⟨b, hb, _⟩ := DataW.trod_bool he h2
      exact ⟨b, by injection hb⟩
    obtain ⟨f, hf⟩ := Go.Deep.choose_lt hb
    have hlen : (bools ((List.range len).map f)).length = len := by simp [bools]
    refine ⟨(List.range len).map f, some a, cap, by rw [hlen], by omega, by simpa [maxLen] using hm, fun hp => ?_⟩
    have h0 := (hx 0 (by omega)).1
    obtain ⟨b, off, spot⟩ := a
    have hspot : spot = none := by simpa [Addr.add] using World.cell?_spot h0
    subst hspot
    refine ⟨b, off, rfl, ?_, fun j u hu => ?_⟩
    · have := World.block_lt_of_cell? W _ h0
      rwa [Go.WideShapes.add_plain] at this
    · have hj : j < len := by
        have := (List.getElem?_eq_some_iff.1 hu).1
        omega
      have h1 := (hx j (by omega)).1
      rw [Go.WideShapes.add_plain] at h1
      rw [h1]
      simp [bools, hj] at hu
      rw [← hu, hf j hj]
theorem open_bools' {W : World} {b0 base : Nat} {t e : TypeId} {v : Value} {d : DataW H} {ps : List MemPlace} {r : Reach} (ht : P.underlying t = some (.slice e)) (he : P.underlying e = some .bool) (hc : P.cellsOf e = 1)
    (hval : Value.okWide P W r b0 t v) (h : DataW.Trod enc P W base (fun _ => true) true t v d ps) : ∃ bs : List Bool, SlG W W.heap.size v (bools bs) := by
  obtain ⟨a0, len, cap, rfl⟩ := okWide_slice ht hval
  obtain ⟨fuel, hf⟩ := h
  exact open_bools ht he hc hf
theorem int_bounds {x : Int} (h : (Lit.int .i64 x).wf = true) : -9223372036854775808 ≤ x ∧ x ≤ 9223372036854775807 := by
  simp [Lit.wf, IntKind.max, IntKind.min, IntKind.signed, IntKind.bits] at h
  omega
end

/-- A contract under a condition on the world that is kept by whatever only makes new blocks. -/
theorem withS {P : Program} {f : FuncId} {args : Array Value} {w : World} {v : Value} {S : World → Prop} (hS : S w) (hk : ∀ a b : World, S a → Pure a b → S b)
    (h : Calls P f args w fun e w' => e = .returned v ∧ Pure w w') : Calls P f args w fun e w' => e = .returned v ∧ S w' := h.mono fun _ _ ⟨he, hp⟩ => ⟨he, hk _ _ hS hp⟩
theorem same_pure {P : Program} {f : FuncId} {args : Array Value} {w : World} {v : Value} (h : Calls P f args w fun e w' => e = .returned v ∧ w = w') : Calls P f args w fun e w' => e = .returned v ∧ Pure w w' :=
  h.mono fun _ _ ⟨he, hw⟩ => ⟨he, hw ▸ Only.refl _ _⟩
theorem draw_pure {P : Program} {f : FuncId} {args : Array Value} {w : World} {v : Value} (h : Calls P f args w fun e w' => e = .returned v ∧ ∃ d, w' = w.drewN d) : Calls P f args w fun e w' => e = .returned v ∧ Pure w w' :=
  h.mono fun _ _ ⟨he, d, hw⟩ => ⟨he, hw ▸ (Only.refl _ _).drewN d⟩
theorem Pure.keep {w w' : World} {p : Addr} {v : Value} (h : Pure w w') (hc : w.cell? p = some v) : w'.cell? p = some v :=
  (h.cell (World.block_lt_of_cell? w p hc) (fun f => f)).trans hc

theorem ret_b {x y : Bool} (h : y = x) : Ending.returned (.bool x) = .returned (.bool y) := by rw [h]
theorem ret_i {k : IntKind} {x y : Int} (h : y = x) : Ending.returned (.int k x) = .returned (.int k y) := by rw [h]

end Go.Proofs.YtelkimgcbkmdmaaDoor
