/-
  The maps of Reach: what is met (map[int]bool), and the range over the map of locals.
-/
import Derived.Test.YtpllolefmijfdaaGr3
import Derived.Maps.RangeRun
import Derived.Maps.Range
namespace Go.Proofs.Ytpllolefmijfdaa
open Go.RowKit
open Go.ChangeMaps (setBlock)

/-! ### What is met -/
/-- The map in block M has the keys ks, each with true. -/
def MetR (w : World) (M : Nat) (ks : List Nat) : Prop :=
  ∃ es clock, w.heap[M]? = some (.map es clock) ∧ es.toList.map (fun e => (e.key, e.val)) = ks.map (fun (k : Nat) => (Value.int .i64 (k : Int), Value.bool true)) ∧ ∀ k ∈ ks, k ≤ 1000000
theorem MetR.only {w w' : World} {S : Nat → Prop} {M : Nat} {ks : List Nat} (h : MetR w M ks) (ho : Only S w w') (hn : ¬ S M) : MetR w' M ks := by
  obtain ⟨es, clock, h1, h2⟩ := h
  exact ⟨es, clock, ho.blk h1 hn, h2⟩
theorem keyN (k : Nat) (hk : k ≤ 1000000) : keyOf Try.prog 3 (.int .i64 (k : Int)) = some (.int .i64 (k : Int)) := Maps.keyOf_int_mk Try.underlying3 (by
  have e1 : IntKind.i64.min = -9223372036854775808 := by decide
  have e2 : IntKind.i64.max = 9223372036854775807 := by decide
  simp only [Lit.wf, e1, e2, Bool.and_eq_true, decide_eq_true_eq]; omega)
theorem met_mem {es : Array MapEntry} {ks : List Nat} (h : es.toList.map (fun e => (e.key, e.val)) = ks.map (fun (k : Nat) => (Value.int .i64 (k : Int), Value.bool true))) {e : MapEntry} (he : e ∈ es.toList) : ∃ k ∈ ks, e.key = .int .i64 (k : Int) ∧ e.val = .bool true := by
  have : (e.key, e.val) ∈ es.toList.map (fun e => (e.key, e.val)) := List.mem_map.2 ⟨e, he, rfl⟩
  rw [h] at this
  obtain ⟨k, hk, e1⟩ := List.mem_map.1 this
  injection e1 with e1 e2
  exact ⟨k, hk, e1.symm, e2.symm⟩
theorem met_mem' {es : Array MapEntry} {ks : List Nat} (h : es.toList.map (fun e => (e.key, e.val)) = ks.map (fun (k : Nat) => (Value.int .i64 (k : Int), Value.bool true))) {k : Nat} (hk : k ∈ ks) : ∃ e ∈ es.toList, e.key = .int .i64 (k : Int) := by
  have : (Value.int .i64 (k : Int), Value.bool true) ∈ es.toList.map (fun e => (e.key, e.val)) := by rw [h]; exact List.mem_map.2 ⟨k, hk, rfl⟩
  obtain ⟨e, he, e1⟩ := List.mem_map.1 this
  injection e1 with e1 e2
  exact ⟨e, he, e1⟩
set_option maxRecDepth 10000 in
theorem met_look {w : World} {M k : Nat} {ks : List Nat} (h : MetR w M ks) (hk : k ≤ 1000000) : (Instr.lookup 63 (.map (some M)) (.int .i64 (k : Int)) false).run Try.prog w = .ok (.bool (decide (k ∈ ks))) w := by
  obtain ⟨es, clock, hb, hm, hle⟩ := h
  have hkeys : ∀ e ∈ es.toList, ∃ l, keyOf Try.prog 3 e.key = some l := fun e he => by
    obtain ⟨j, hj, e1, -⟩ := met_mem hm he
    exact ⟨_, by rw [e1]; exact keyN j (hle j hj)⟩
  rcases kd.find w (keyN k hk) es.toList hkeys with ⟨h1, h2⟩ | ⟨j, e0, h1, h2, h3⟩
  · have hn : k ∉ ks := fun hin => by
      obtain ⟨e, he, e1⟩ := met_mem' hm hin
      exact h2 e he e1
    have hz : (zeroValue 4).run Try.prog w = .ok (.bool false) w := by kernel_rfl
    simp [Instr.lookup, run_underlying Try.underlying63, MapKept.run_getObj_map hb, kd.check w _ (keyN k hk), h1, hz, Result.andThen, hn]
  · obtain ⟨i, hi, e1, e2⟩ := met_mem hm (List.mem_of_getElem? h2)
    rw [h3] at e1
    injection e1 with e1 e3
    have : k = i := by omega
    subst this
    clear h2 h3 hkeys
    simp [Instr.lookup, run_underlying Try.underlying63, MapKept.run_getObj_map hb, kd.check w _ (keyN k hk), h1, Result.andThen, hi, e2]
theorem met_put {w : World} {M k : Nat} {ks : List Nat} (h : MetR w M ks) (hk : k ≤ 1000000) (hn : k ∉ ks) :
    ∃ es clock, (Instr.mapUpdate 63 (.map (some M)) (.int .i64 (k : Int)) (.bool true)).run Try.prog w = .ok () (setBlock w M (.map es clock)) ∧ MetR (setBlock w M (.map es clock)) M (ks ++ [k]) := by
  obtain ⟨es, clock, hb, hm, hle⟩ := h
  have hkeys : ∀ e ∈ es.toList, ∃ l, keyOf Try.prog 3 e.key = some l := fun e he => by
    obtain ⟨j, hj, e1, -⟩ := met_mem hm he
    exact ⟨_, by rw [e1]; exact keyN j (hle j hj)⟩
  have hlt := (Array.getElem?_eq_some_iff.1 hb).1
  rcases kd.find w (keyN k hk) es.toList hkeys with ⟨h1, h2⟩ | ⟨j, e0, h1, h2, h3⟩
  · refine ⟨es.push ⟨.int .i64 (k : Int), .bool true, clock⟩, clock + 1, ?_, es.push ⟨.int .i64 (k : Int), .bool true, clock⟩, clock + 1, by simp [setBlock, hlt], by simp [hm], fun j hj => ?_⟩
    · simp [Instr.mapUpdate, run_underlying Try.underlying63, MapKept.run_getObj_map hb, kd.check w false (keyN k hk), h1, MapKept.run_setObj_map _ hb, Result.andThen, setBlock]
    · rcases List.mem_append.1 hj with hj | hj
      · exact hle j hj
      · simp at hj; omega
  · obtain ⟨i, hi, e1, e2⟩ := met_mem hm (List.mem_of_getElem? h2)
    rw [h3] at e1
    injection e1 with e1 e3
    have : k = i := by omega
    subst this
    exact absurd hi hn
theorem met_new (w : World) : MetR (w.alloc (.map #[] 0)) w.heap.size [] := ⟨#[], 0, heap_alloc_new w _, rfl, fun _ h => by simp at h⟩

/-! ### The range over the map of locals -/
theorem rng_any {w : World} {M : Nat} {es : Array MapEntry} {clock : Nat} (hb : w.heap[M]? = some (.map es clock)) : (Instr.range 57 (.map (some M))).run Try.prog w = .ok (.pointer (some ⟨w.heap.size, 0, none⟩)) (w.alloc (.mapIter (some M) clock #[] clock)) := by
  simp [Instr.range, run_underlying Try.underlying57, MapKept.run_getObj_map hb, Result.andThen]
theorem nxt_none {w : World} {M r clock since c0 : Nat} {seen : Array Nat} (ty : TypeId) (hr : w.heap[r]? = some (.mapIter (some M) since seen c0)) (hb : w.heap[M]? = some (.map #[] clock)) (hsc : since ≤ c0) :
    (Instr.next (.pointer (some ⟨r, 0, none⟩)) false ty).run Try.prog w = .ok (.tuple #[.bool false]) w := by
  rcases Go.run_next_at (P := Try.prog) w ty r M since c0 seen #[] clock hr hb (by simp) hsc with ⟨_, h⟩ | ⟨e, he, _⟩
  · exact h
  · simp [Go.leftOf] at he
theorem nxt_one {w : World} {M r clock since c0 born : Nat} {k v : Value} (ty : TypeId) (hr : w.heap[r]? = some (.mapIter (some M) since #[] c0)) (hb : w.heap[M]? = some (.map #[⟨k, v, born⟩] clock)) (hsc : since ≤ c0) (hbs : born < since) :
    ∃ w1 : World, (w1 = w ∨ w1 = w.drew) ∧ (Instr.next (.pointer (some ⟨r, 0, none⟩)) false ty).run Try.prog w = .ok (.tuple #[.bool true, k, v]) (setBlock w1 r (.mapIter (some M) since #[born] clock)) := by
  rcases Go.run_next_at (P := Try.prog) w ty r M since c0 #[] #[⟨k, v, born⟩] clock hr hb (by simp [hbs]) hsc with ⟨h, _⟩ | ⟨e, he, w1, h1, h2⟩
  · simp [Go.leftOf] at h
  · simp [Go.leftOf] at he
    subst he
    exact ⟨w1, h1, h2⟩
theorem nxt_done {w : World} {M r clock since c0 born : Nat} {k v : Value} (ty : TypeId) (hr : w.heap[r]? = some (.mapIter (some M) since #[born] c0)) (hb : w.heap[M]? = some (.map #[⟨k, v, born⟩] clock)) (hsc : since ≤ c0) (hbs : born < since) :
    (Instr.next (.pointer (some ⟨r, 0, none⟩)) false ty).run Try.prog w = .ok (.tuple #[.bool false]) w := by
  rcases Go.run_next_at (P := Try.prog) w ty r M since c0 #[born] #[⟨k, v, born⟩] clock hr hb (by simp [hbs]) hsc with ⟨_, h⟩ | ⟨e, he, _⟩
  · exact h
  · simp [Go.leftOf] at he
theorem ent_one {w : World} {M r clock since born : Nat} {k v : Value} (hr : w.heap[r]? = some (.mapIter (some M) since #[born] clock)) (hb : w.heap[M]? = some (.map #[⟨k, v, born⟩] clock)) :
    (Instr.entry (.pointer (some ⟨r, 0, none⟩))).run Try.prog w = .ok (.tuple #[k, v]) w :=
  Go.run_entry_at (P := Try.prog) w r M since #[] #[⟨k, v, born⟩] clock ⟨k, v, born⟩ (by simpa using hr) hb (by simp) (by simp)

end Go.Proofs.Ytpllolefmijfdaa
