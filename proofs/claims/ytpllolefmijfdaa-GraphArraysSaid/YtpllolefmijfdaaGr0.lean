/-
  The contracts of op.words and op.field.
-/
import Derived.Test.YtpllolefmijfdaaGCp
namespace Go.Proofs.Ytpllolefmijfdaa
open Go.RowKit

/-- The words, and what is named behind each. -/
def wl : List (ByteArray × ByteArray) := [(⟨#[]⟩, ⟨#[]⟩), (⟨#[110, 101, 119]⟩, ⟨#[97, 107]⟩), (⟨#[97, 114, 114, 97, 121]⟩, ⟨#[97, 107, 110]⟩), (⟨#[108, 111, 97, 100]⟩, ⟨#[97, 98, 110]⟩), (⟨#[115, 116, 111, 114, 101]⟩, ⟨#[97, 110, 98]⟩), (⟨#[103, 101, 116]⟩, ⟨#[97, 98, 110]⟩), (⟨#[112, 117, 116]⟩, ⟨#[97, 110, 98]⟩), (⟨#[108, 111, 111, 107]⟩, ⟨#[97, 103]⟩), (⟨#[115, 101, 116]⟩, ⟨#[103, 98]⟩), (⟨#[115, 97, 109, 101]⟩, ⟨#[97, 98, 99]⟩), (⟨#[108, 101, 110, 103, 116, 104]⟩, ⟨#[97, 98]⟩), (⟨#[107, 105, 110, 100]⟩, ⟨#[97, 98]⟩), (⟨#[110, 117, 109, 98, 101, 114]⟩, ⟨#[97, 122]⟩), (⟨#[99, 108, 101, 97, 114]⟩, ⟨#[97]⟩), (⟨#[99, 111, 112, 121]⟩, ⟨#[97, 98]⟩), (⟨#[97, 100, 100]⟩, ⟨#[97, 98, 99]⟩), (⟨#[109, 117, 108]⟩, ⟨#[97, 98, 99]⟩), (⟨#[99, 111, 108, 108, 101, 99, 116]⟩, ⟨#[]⟩), (⟨#[108, 101, 97, 118, 101]⟩, ⟨#[]⟩)]
def wdW (k : Nat) : ByteArray := (wl.getD k (⟨#[]⟩, ⟨#[]⟩)).1
def wdN (k : Nat) : ByteArray := (wl.getD k (⟨#[]⟩, ⟨#[]⟩)).2
def wcs : Array Value := #[.string ⟨#[]⟩, .string ⟨#[]⟩, .string ⟨#[110, 101, 119]⟩, .string ⟨#[97, 107]⟩, .string ⟨#[97, 114, 114, 97, 121]⟩, .string ⟨#[97, 107, 110]⟩, .string ⟨#[108, 111, 97, 100]⟩, .string ⟨#[97, 98, 110]⟩, .string ⟨#[115, 116, 111, 114, 101]⟩, .string ⟨#[97, 110, 98]⟩, .string ⟨#[103, 101, 116]⟩, .string ⟨#[97, 98, 110]⟩, .string ⟨#[112, 117, 116]⟩, .string ⟨#[97, 110, 98]⟩, .string ⟨#[108, 111, 111, 107]⟩, .string ⟨#[97, 103]⟩, .string ⟨#[115, 101, 116]⟩, .string ⟨#[103, 98]⟩, .string ⟨#[115, 97, 109, 101]⟩, .string ⟨#[97, 98, 99]⟩, .string ⟨#[108, 101, 110, 103, 116, 104]⟩, .string ⟨#[97, 98]⟩, .string ⟨#[107, 105, 110, 100]⟩, .string ⟨#[97, 98]⟩, .string ⟨#[110, 117, 109, 98, 101, 114]⟩, .string ⟨#[97, 122]⟩, .string ⟨#[99, 108, 101, 97, 114]⟩, .string ⟨#[97]⟩, .string ⟨#[99, 111, 112, 121]⟩, .string ⟨#[97, 98]⟩, .string ⟨#[97, 100, 100]⟩, .string ⟨#[97, 98, 99]⟩, .string ⟨#[109, 117, 108]⟩, .string ⟨#[97, 98, 99]⟩, .string ⟨#[99, 111, 108, 108, 101, 99, 116]⟩, .string ⟨#[]⟩, .string ⟨#[108, 101, 97, 118, 101]⟩, .string ⟨#[]⟩]
theorem wcs_at (k : Nat) (hk : k < 19) : wcs[k * 2]? = some (.string (wdW k)) ∧ wcs[k * 2 + 1]? = some (.string (wdN k)) := by
  rcases (by omega : k = 0 ∨ k = 1 ∨ k = 2 ∨ k = 3 ∨ k = 4 ∨ k = 5 ∨ k = 6 ∨ k = 7 ∨ k = 8 ∨ k = 9 ∨ k = 10 ∨ k = 11 ∨ k = 12 ∨ k = 13 ∨ k = 14 ∨ k = 15 ∨ k = 16 ∨ k = 17 ∨ k = 18) with rfl | rfl | rfl | rfl | rfl | rfl | rfl | rfl | rfl | rfl | rfl | rfl | rfl | rfl | rfl | rfl | rfl | rfl | rfl <;> exact ⟨rfl, rfl⟩

set_option maxRecDepth 100000 in
set_option maxHeartbeats 1000000 in
theorem words_any (k : Nat) (hk : k < 19) (w : World) : Calls Try.prog 45 #[.int .i64 k] w fun e w' => e = .returned (.tuple #[.string (wdW k), .string (wdN k)]) ∧ Pure w w' := by
  have hb := heap_alloc_new w (.cells wcs 103)
  have c0 : (w.alloc (.cells wcs 103)).cell? ⟨w.heap.size, k * 2, none⟩ = some (.string (wdW k)) := by rw [cell_of_row _ _ _ _ _ (0, 0) hb]; exact (wcs_at k hk).1
  have c1 : (w.alloc (.cells wcs 103)).cell? ⟨w.heap.size, k * 2 + 1, none⟩ = some (.string (wdN k)) := by rw [cell_of_row _ _ _ _ _ (0, 0) hb]; exact (wcs_at k hk).2
  have C0 := Lib.hid c0
  have C1 := Lib.hid c1
  have hp := Lib.hid ((Only.refl (fun _ => False) w).alloc (.cells wcs 103))
  have h0 : (0 : Int) ≤ (k : Int) := by omega
  have h1 : (k : Int) < 19 := by omega
  clear hb c0 c1
  go_enter Try.func45, Try.ntmps45
  unfold wcs at C0 C1 hp
  go_wp2_with fail
  generalize w.alloc (.cells #[.string ⟨#[]⟩, .string ⟨#[]⟩, .string ⟨#[110, 101, 119]⟩, .string ⟨#[97, 107]⟩, .string ⟨#[97, 114, 114, 97, 121]⟩, .string ⟨#[97, 107, 110]⟩, .string ⟨#[108, 111, 97, 100]⟩, .string ⟨#[97, 98, 110]⟩, .string ⟨#[115, 116, 111, 114, 101]⟩, .string ⟨#[97, 110, 98]⟩, .string ⟨#[103, 101, 116]⟩, .string ⟨#[97, 98, 110]⟩, .string ⟨#[112, 117, 116]⟩, .string ⟨#[97, 110, 98]⟩, .string ⟨#[108, 111, 111, 107]⟩, .string ⟨#[97, 103]⟩, .string ⟨#[115, 101, 116]⟩, .string ⟨#[103, 98]⟩, .string ⟨#[115, 97, 109, 101]⟩, .string ⟨#[97, 98, 99]⟩, .string ⟨#[108, 101, 110, 103, 116, 104]⟩, .string ⟨#[97, 98]⟩, .string ⟨#[107, 105, 110, 100]⟩, .string ⟨#[97, 98]⟩, .string ⟨#[110, 117, 109, 98, 101, 114]⟩, .string ⟨#[97, 122]⟩, .string ⟨#[99, 108, 101, 97, 114]⟩, .string ⟨#[97]⟩, .string ⟨#[99, 111, 112, 121]⟩, .string ⟨#[97, 98]⟩, .string ⟨#[97, 100, 100]⟩, .string ⟨#[97, 98, 99]⟩, .string ⟨#[109, 117, 108]⟩, .string ⟨#[97, 98, 99]⟩, .string ⟨#[99, 111, 108, 108, 101, 99, 116]⟩, .string ⟨#[]⟩, .string ⟨#[108, 101, 97, 118, 101]⟩, .string ⟨#[]⟩] 103) = W at *
  generalize w.heap.size = B at *
  have c0 := C0.out
  have c1 := C1.out
  obtain ⟨sw, hsw⟩ : ∃ s, wdW k = s := ⟨_, rfl⟩
  obtain ⟨sn, hsn⟩ : ∃ s, wdN k = s := ⟨_, rfl⟩
  rw [hsw] at c0
  rw [hsn] at c1
  have SW := Lib.hid hsw
  have SN := Lib.hid hsn
  clear hsw hsn
  go_quiet (fail)
  go_wp2_with fail
  go_ret2
  exact ⟨by rw [SW.out, SN.out]; rfl, hp.out.drewN _⟩

theorem field_any (X : Nat) (c : Int) (o : Nat) (w : World) (h : (c = 97 ∧ o = 1) ∨ ((c = 98 ∨ c = 107) ∧ o = 2) ∨ (c = 99 ∧ o = 3) ∨ ((c = 110 ∨ c = 103) ∧ o = 4)) :
    Calls Try.prog 46 #[.pointer (some ⟨X, 0, none⟩), .int .i32 c] w fun e w' => e = .returned (.pointer (some ⟨X, o, none⟩)) ∧ w = w' := by
  rcases h with ⟨rfl, rfl⟩ | ⟨rfl | rfl, rfl⟩ | ⟨rfl, rfl⟩ | ⟨rfl | rfl, rfl⟩
  all_goals
    go_enter Try.func46, Try.ntmps46
    go_wp2_with fail
    go_ret
    exact ⟨rfl, rfl⟩

end Go.Proofs.Ytpllolefmijfdaa
