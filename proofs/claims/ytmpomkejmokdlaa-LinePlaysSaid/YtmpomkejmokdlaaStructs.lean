/-
  An argument that is a slice of structs of one-cell fields, opened; inner slices of ints. No law is proved here.
-/
import Derived.Test.YtmpomkejmokdlaaMem
import Derived.Deep.Fields
namespace Go.Proofs.Ytmpomkejmokdlaa
open Go.RowKit Go.ChangeShapes Go.WideShapes Go.ChangeAt

section
variable {H : Type} {enc : TypeId × Value → H} {P : Program} {W : World} {base : Nat}

/-- A slice of structs of k one-cell fields: each field of each entry has a cell, and the cell reads by its field's type. -/
theorem open_structs {t e : TypeId} {fs : Array Field} {k : Nat} {v : Value} {r : Reach} {b0 : Nat} {d : DataW H} {ps : List MemPlace} (ht : P.underlying t = some (.slice e)) (he : P.underlying e = some (.struct fs))
    (hone : Go.Deep.oneCellFields P fs = true) (hC : P.cellsOf e = k) (hk : fs.size = k) (hval : Value.okWide P W r b0 t v) (h : DataW.Trod enc P W base (fun _ => true) true t v d ps) :
    ∃ (A : Option Addr) (n c : Nat), v = .slice A n c ∧ n ≤ c ∧ c ≤ 9223372036854775807 ∧
      (0 < n → 0 < k → ∃ b off, A = some ⟨b, off, none⟩ ∧ b < W.heap.size ∧ ∀ i, i < n → ∀ j f, fs[j]? = some f → ∃ u fu y, W.cell? ⟨b, off + i * k + j, none⟩ = some u ∧ DataW.trod enc P W base (fun _ => true) true fu f.type [u] = some y) := by
  subst hk
  obtain ⟨a0, len, cap, rfl⟩ := okWide_slice ht hval
  obtain ⟨fuel, hf⟩ := h
  rcases Go.Deep.open_slice ht hf with ⟨hcs, _⟩ | ⟨a, len', cap', m, nn, D, Pl, hcs, _, hl, hm, hmm, _, hx⟩
  · have hcs' : [Value.slice a0 len cap] = [.slice none 0 0] := hcs
    injection hcs' with hcs'
    exact ⟨none, 0, 0, hcs', Nat.le_refl _, by omega, fun h => by omega⟩
  · have hcs' : [Value.slice a0 len cap] = [.slice (some a) len' cap'] := hcs
    injection hcs' with hcs'
    have hmc : m = cap' := by simpa using hmm
    refine ⟨some a, len', cap', hcs', hl, by simpa [maxLen] using hm, fun hn hk => ?_⟩
    have each : ∀ i, i < len' → ∀ j f, fs[j]? = some f → ∃ u fu y, W.cell? (a.add (i * fs.size + j)) = some u ∧ DataW.trod enc P W base (fun _ => true) true fu f.type [u] = some y := by
      intro i hi j f hj
      obtain ⟨cs, h1, h2⟩ := hx i (by omega)
      rw [hC] at h1
      obtain ⟨_, hlen, hcell⟩ := World.cells?_some h1
      obtain ⟨ys, fu, _, _, _, hyl, hfs⟩ := DataW.trod_struct he h2
      obtain ⟨ho, hc1⟩ := Go.Deep.hone_of hone j f hj
      have hjl : j < fs.size := (Array.getElem?_eq_some_iff.1 hj).1
      have g := hfs j f hj
      rw [ho, hc1, List.drop_eq_getElem_cons (by omega), List.take_succ_cons, List.take_zero] at g
      have e := hcell j hjl
      rw [Go.Deep.add_add, List.getElem?_eq_getElem (by omega)] at e
      rw [List.getElem?_eq_getElem (by omega)] at g
      exact ⟨_, fu, _, e, g⟩
    obtain ⟨f0, hf0⟩ : ∃ f, fs[0]? = some f := ⟨fs[0], Array.getElem?_eq_getElem hk⟩
    obtain ⟨u0, _, _, h0, _⟩ := each 0 hn 0 f0 hf0
    obtain ⟨b, off, spot⟩ := a
    have hspot : spot = none := by simpa [Addr.add] using World.cell?_spot h0
    subst hspot
    refine ⟨b, off, rfl, ?_, fun i hi j f hj => ?_⟩
    · have := World.block_lt_of_cell? W _ h0
      rwa [Go.WideShapes.add_plain] at this
    · obtain ⟨u, fu, y, h1, h2⟩ := each i hi j f hj
      rw [Go.WideShapes.add_plain] at h1
      exact ⟨u, fu, y, by simpa [Nat.add_assoc] using h1, h2⟩

/-- A cell that is a slice of ints reads as a list. -/
theorem open_slc {t e : TypeId} {v : Value} {x : DataW H × List MemPlace} {fuel : Nat} (ht : P.underlying t = some (.slice e)) (he : P.underlying e = some (.int .i64)) (hc : P.cellsOf e = 1)
    (hf : DataW.trod enc P W base (fun _ => true) true fuel t [v] = some x) : ∃ xs, SlI W W.heap.size v xs := by
  rcases open_ints ht he hc hf with ⟨hcs, _⟩ | ⟨a, len', cap', zs, hcs, _, hl, hm, hz, _, hcell, hwz⟩
  · injection hcs with hcs'
    rw [hcs']
    exact ⟨[], SlI.nil _ _⟩
  · injection hcs with hcs'
    rw [hcs']
    have hz' : zs.length = cap' := by simpa using hz
    have hl' : (zs.take len').length = len' := by rw [List.length_take]; omega
    refine ⟨zs.take len', some a, cap', by rw [hl'], by omega, hm, fun x hx => ?_, fun hp => ?_⟩
    · exact int_bounds (hwz x (List.mem_of_mem_take hx))
    · obtain ⟨b, off, rfl, hc'⟩ := ints_at hcell (by omega)
      refine ⟨b, off, rfl, World.block_lt_of_cell? W ⟨b, off + 0, none⟩ (hc' 0 (by omega)), fun j hj => ?_⟩
      rw [hc' j (by omega)]
      simp only [List.getD_eq_getElem?_getD, List.getElem?_take]
      rw [if_pos (by omega)]
/-- A cell that is an int. -/
theorem open_intc {t : TypeId} {v : Value} {x : DataW H × List MemPlace} {fuel : Nat} (ht : P.underlying t = some (.int .i64))
    (hf : DataW.trod enc P W base (fun _ => true) true fuel t [v] = some x) : ∃ n : Int, v = .int .i64 n ∧ -9223372036854775808 ≤ n ∧ n ≤ 9223372036854775807 := by
  obtain ⟨n, hn, _, hw⟩ := DataW.trod_int ht hf
  injection hn with hn
  exact ⟨n, hn, int_bounds hw⟩
end
end Go.Proofs.Ytmpomkejmokdlaa
