/-
  A region that draws its order, whose operations read and whose callees only make new memory: one walk in the order of the text serves, over any class of worlds that the callees keep.
  No function of the program is walked here.
-/
import Derived.Test.YtelkimgcbkmdmaaDoorMem
import Derived.Deep.QuietTactic
import Derived.BigQuiet
import Derived.Laws.BitsAllLaws
import Derived.Laws.BitsLemmas
namespace Go.Proofs.YtelkimgcbkmdmaaDoor
open Go.RowKit

/-- The class: every world that D holds of, under the name f s. -/
theorem region_class {P : Program} {id : Nat} {Q : Exit → Act → World → Prop} {a : Act} {w : World} {l : List Oper} (D : World → Prop) (h0 : D w.drew) (hm : P.follows .mixedOrders = true) (hB : Region.lexB .any l.toArray = true)
    (h : ∀ (S : Type) (f : S → World) (_ : Nonempty S), (∀ s, D (f s)) → (∀ w', D w' → ∃ s, w' = f s) → wpQuiet P l.toArray (fun w' => ∃ s, w' = f s) (fun a' => ∀ w', (∃ s, w' = f s) → Q .normal a' w') l a) : (Code.region id l.toArray true).wp P Q a w :=
  wp_region_quiet (C := fun w' => ∃ s : {w' // D w'}, w' = s.1) hm hB ⟨⟨w.drew, h0⟩, rfl⟩
    (by simpa using h {w' // D w'} Subtype.val ⟨⟨w.drew, h0⟩⟩ (fun s => s.2) (fun w' hw => ⟨⟨w', hw⟩, rfl⟩))

/-- A callee that keeps the class. -/
theorem class_call {P : Program} {f : FuncId} {args : Array Value} {w : World} {v : Value} {D : World → Prop} {S : Type} {g : S → World} (hmk : ∀ w', D w' → ∃ s, w' = g s) (hD : D w) (hk : ∀ w', D w → Pure w w' → D w')
    (h : Calls P f args w fun e w' => e = .returned v ∧ Pure w w') : Calls P f args w fun e w' => e = .returned v ∧ ∃ s, w' = g s :=
  h.mono fun _ w' ⟨he, hp⟩ => ⟨he, hmk w' (hk w' hD hp)⟩

theorem own_mono {w : World} {base base' : Nat} {e : TypeId} {size : Nat} {v : Value} {n : Nat} {xs : List Value} (h : w.ownsRow base e size v n xs) (hb : base' ≤ base) : w.ownsRow base' e size v n xs :=
  ⟨h.1, h.2.imp id fun ⟨g, cap, cur, h1, h2, h3⟩ => ⟨g, cap, cur, h1, Nat.le_trans hb h2, h3⟩⟩
theorem own_cap {w : World} {base : Nat} {e : TypeId} {size n c : Nat} {A : Option Addr} {xs : List Value} (h : w.ownsRow base e size (.slice A n c) n xs) : n ≤ c ∧ c ≤ maxLen := by
  rcases h.2 with ⟨hv, rfl⟩ | ⟨g, cap, cur, hv, _, _, h1, h2, _⟩
  · injection hv with _ _ hc
    subst hc
    exact ⟨Nat.le_refl _, by simp [maxLen]⟩
  · injection hv with _ _ hc
    subst hc
    exact ⟨h1, h2⟩

/-- A part of a row of ints. -/
theorem Src.part {w : World} {base : Nat} {e : TypeId} {g c : Nat} {ts : List Int} (h : w.ownsRow base e 1 (.slice (some ⟨g, 0, none⟩) ts.length c) ts.length (ints ts)) (k m : Nat) (hkm : k + m ≤ ts.length) : Src w 1 (some ⟨g, k, none⟩) m (ints ((ts.drop k).take m)) := by
  refine ⟨by rw [ints_length, List.length_take, List.length_drop]; omega, fun _ => ⟨g, k, rfl, fun j u hu => ?_⟩⟩
  have hj := (List.getElem?_eq_some_iff.1 hu).1
  rw [ints_length, List.length_take, List.length_drop] at hj
  rw [h.cellAt (k + j) (by omega)]
  simp only [ints, List.getElem?_map, List.getElem?_take, List.getElem?_drop] at hu ⊢
  rw [if_pos (by omega)] at hu
  exact hu
theorem src_zero {w : World} {size : Nat} (A : Option Addr) : Src w size A 0 [] := ⟨by simp, fun h => absurd h (by omega)⟩
/-- The part behind a place, at whatever address the walk gives it. -/
theorem Src.behind {w : World} {base : Nat} {e : TypeId} {g c : Nat} {ts : List Int} (h : w.ownsRow base e 1 (.slice (some ⟨g, 0, none⟩) ts.length c) ts.length (ints ts)) (k : Nat) (hk : k ≤ ts.length) (hc : ts.length ≤ c) :
    Src w 1 (if c = k then some ⟨g, 0, none⟩ else some ⟨g, k, none⟩) (ts.length - k) (ints (ts.drop k)) := by
  by_cases h0 : k = ts.length
  · subst h0
    rw [Nat.sub_self, List.drop_length]
    exact src_zero _
  · rw [if_neg (by omega)]
    have := Src.part h k (ts.length - k) (by omega)
    rwa [List.take_of_length_le (by rw [List.length_drop]; omega)] at this
theorem Src.front {w : World} {base : Nat} {e : TypeId} {g c : Nat} {ts : List Int} (h : w.ownsRow base e 1 (.slice (some ⟨g, 0, none⟩) ts.length c) ts.length (ints ts)) (k : Nat) (hk : k ≤ ts.length) :
    Src w 1 (some ⟨g, 0, none⟩) k (ints (ts.take k)) := by
  simpa using Src.part h 0 k (by omega)

/-- & on ints that are not negative. -/
theorem ofInt_i64 (a : Nat) (ha : a < 9223372036854775808) : (BitVec.ofInt 64 (a : Int)).toNat = a := by
  rw [BitVec.ofInt_natCast, BitVec.toNat_ofNat]; exact Nat.mod_eq_of_lt (by omega)
theorem i64_and_nat (a b : Nat) (ha : a < 9223372036854775808) (hb : b < 9223372036854775808) : bits .and .i64 (a : Int) (b : Int) = ((a &&& b : Nat) : Int) := by
  have hx : a &&& b < 2 ^ 63 := Nat.and_lt_two_pow _ (by omega)
  show IntKind.i64.wrap ((BitVec.ofInt 64 (a : Int) &&& BitVec.ofInt 64 (b : Int)).toNat : Int) = _
  rw [BitVec.toNat_and, ofInt_i64 a ha, ofInt_i64 b hb, IntKind.wrap_i64]
  omega

end Go.Proofs.YtelkimgcbkmdmaaDoor
