/-
  The operations that chapter 9's laws take, opened.
-/
import Derived.Test.YtlnhehjdicpeoaaStructs
import Derived.Test.YtlnhehjdicpeoaaInts
import Derived.Test.YtlnhehjdicpeoaaSt5
namespace Go.Proofs.Ytlnhehjdicpeoaa
open Go.RowKit Go.ChangeShapes Go.WideShapes Go.ChangeAt

/-- An operation: its kind, its number, the value of its slice, its numbers. -/
structure Op9 where
  kind : Int
  n : Int
  v : Value
  xs : List Int
instance : Inhabited Op9 := ⟨⟨0, 0, .slice none 0 0, []⟩⟩

/-- The value v is a slice of operations that reads as l. -/
def OpsR (w : World) (B : Nat) (v : Value) (l : List Op9) : Prop :=
  (∃ (A : Option Addr) (c : Nat), v = .slice A l.length c ∧ l.length ≤ c ∧ c ≤ 9223372036854775807 ∧
    (0 < l.length → ∃ b off, A = some ⟨b, off, none⟩ ∧ b < B ∧ ∀ j o, l[j]? = some o → w.cell? ⟨b, off + j * 3, none⟩ = some (.int .i64 o.kind) ∧ w.cell? ⟨b, off + j * 3 + 1, none⟩ = some (.int .i64 o.n) ∧ w.cell? ⟨b, off + j * 3 + 2, none⟩ = some o.v)) ∧
  ∀ o ∈ l, SlI w B o.v o.xs ∧ -9223372036854775808 ≤ o.n ∧ o.n ≤ 9223372036854775807

theorem OpsR.pure {w w' : World} {v : Value} {l : List Op9} (h : OpsR w w.heap.size v l) (hp : Pure w w') : OpsR w' w'.heap.size v l := by
  obtain ⟨⟨A, c, e, h1, h2, h3⟩, h4⟩ := h
  refine ⟨⟨A, c, e, h1, h2, fun hl => ?_⟩, fun s hs => ⟨(h4 s hs).1.only hp (fun _ _ f => f), (h4 s hs).2⟩⟩
  obtain ⟨b, off, rfl, hb, hc⟩ := h3 hl
  refine ⟨b, off, rfl, Nat.lt_of_lt_of_le hb hp.size, fun j s hj => ?_⟩
  obtain ⟨c1, c2, c3⟩ := hc j s hj
  exact ⟨hp.keep c1, hp.keep c2, hp.keep c3⟩

theorem open_ops {H : Type} {enc : TypeId × Value → H} {W : World} {b0 base : Nat} {v : Value} {d : DataW H} {ps : List MemPlace} {r : Reach}
    (hval : Value.okWide Try.prog W r b0 35 v) (h : DataW.Trod enc Try.prog W base (fun _ => true) true 35 v d ps) : ∃ l, OpsR W W.heap.size v l := by
  obtain ⟨A, n, c, rfl, h1, h2, h3⟩ := open_structs (k := 3) Try.underlying35 Try.underlying37 (by kernel_rfl) (by kernel_rfl) rfl hval h
  rcases Nat.eq_zero_or_pos n with rfl | hn
  · exact ⟨[], ⟨A, c, rfl, Nat.zero_le _, h2, fun h => by simp at h⟩, fun o ho => by simp at ho⟩
  · obtain ⟨b, off, rfl, hb, hc⟩ := h3 hn (by omega)
    have each : ∀ i, i < n → ∃ o : Op9, W.cell? ⟨b, off + i * 3, none⟩ = some (.int .i64 o.kind) ∧ W.cell? ⟨b, off + i * 3 + 1, none⟩ = some (.int .i64 o.n) ∧ W.cell? ⟨b, off + i * 3 + 2, none⟩ = some o.v ∧
        SlI W W.heap.size o.v o.xs ∧ -9223372036854775808 ≤ o.n ∧ o.n ≤ 9223372036854775807 := by
      intro i hi
      obtain ⟨u0, f0, y0, c0, t0⟩ := hc i hi 0 _ rfl
      obtain ⟨u1, f1, y1, c1, t1⟩ := hc i hi 1 _ rfl
      obtain ⟨u2, f2, y2, c2, t2⟩ := hc i hi 2 _ rfl
      obtain ⟨k, rfl, _, _⟩ := open_intc Try.underlying3 t0
      obtain ⟨m, rfl, m0, m1⟩ := open_intc Try.underlying3 t1
      obtain ⟨xs, hs⟩ := open_slc Try.underlying23 Try.underlying3 (by kernel_rfl) t2
      exact ⟨⟨k, m, u2, xs⟩, c0, c1, c2, hs, m0, m1⟩
    obtain ⟨f, hf⟩ := Go.Deep.choose_lt each
    refine ⟨(List.range n).map f, ⟨_, c, by simp, by simpa using h1, h2, fun _ => ⟨b, off, rfl, hb, fun j o ho => ?_⟩⟩, fun o ho => ?_⟩
    · have hj : j < n := by
        have := (List.getElem?_eq_some_iff.1 ho).1
        simpa using this
      have ho' : f j = o := by simpa [hj] using ho
      subst ho'
      obtain ⟨h1, h2, h3, _⟩ := hf j hj
      exact ⟨h1, h2, h3⟩
    · obtain ⟨i, hi, rfl⟩ := List.mem_map.1 ho
      obtain ⟨_, _, _, h4⟩ := hf i (List.mem_range.1 hi)
      exact h4

end Go.Proofs.Ytlnhehjdicpeoaa
