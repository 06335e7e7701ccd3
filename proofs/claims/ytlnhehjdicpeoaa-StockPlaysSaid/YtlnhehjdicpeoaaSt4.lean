/-
  Contracts of stock.Take.
-/
import Derived.Test.YtlnhehjdicpeoaaSt3
namespace Go.Proofs.Ytlnhehjdicpeoaa
open Go.RowKit

theorem take_no (b : Nat) (most k : Int) (v : Value) (xs : List Int) (w : World) (h : StkOf w b most v xs) (hk : k < 1 ∨ (xs.length : Int) < k) :
    Calls Try.prog 13 #[.pointer (some ⟨b, 0, none⟩), .int .i64 k] w fun e w' => e = .returned (.tuple #[.slice none 0 0, .bool false]) ∧ w = w' := by
  obtain ⟨A, c, rfl, hl⟩ := h.form
  have c0 := h.at_.c0
  clear h
  by_cases h1 : k < 1
  · clear hk
    go_enter Try.func13, Try.ntmps13
    go_wp2
    go_ret2
    exact ⟨rfl, rfl⟩
  · have h2 : (xs.length : Int) < k := by omega
    clear hk
    go_enter Try.func13, Try.ntmps13
    go_wp2
    go_ret2
    exact ⟨rfl, rfl⟩

theorem SlI.take {w : World} {B : Nat} {A : Option Addr} {n c : Nat} {xs : List Int} (h : SlI w B (.slice A n c) xs) (k : Nat) (hk : k ≤ n) : SlI w B (.slice A k c) (xs.take k) := by
  obtain ⟨A', c', e, h1, h2, h3, h4⟩ := h
  injection e with e1 e2 e3
  subst e1; subst e2; subst e3
  have hl : (xs.take k).length = k := by rw [List.length_take]; omega
  refine ⟨A, c, by rw [hl], by omega, h2, fun x hx => h3 x (List.mem_of_mem_take hx), fun hp => ?_⟩
  obtain ⟨b, off, e, hb, hc⟩ := h4 (by omega)
  refine ⟨b, off, e, hb, fun j hj => ?_⟩
  rw [hc j (by omega)]
  simp only [List.getD_eq_getElem?_getD, List.getElem?_take]
  rw [if_pos (by omega)]

theorem SlI.drop {w : World} {B : Nat} {b off n c : Nat} {xs : List Int} (h : SlI w B (.slice (some ⟨b, off, none⟩) n c) xs) (k : Nat) (hk : k ≤ n) (o' : Nat) (ho : k < n → o' = off + k) : SlI w B (.slice (some ⟨b, o', none⟩) (n - k) (c - k)) (xs.drop k) := by
  obtain ⟨A', c', e, h1, h2, h3, h4⟩ := h
  injection e with e1 e2 e3
  subst e1; subst e2; subst e3
  have hl : (xs.drop k).length = xs.length - k := by rw [List.length_drop]
  refine ⟨_, c - k, by rw [hl], by omega, by unfold maxLen at *; omega, fun x hx => h3 x (List.mem_of_mem_drop hx), fun hp => ?_⟩
  obtain ⟨b', off', e, hb, hc⟩ := h4 (by omega)
  injection e with e
  injection e with e1 e2
  subst e1; subst e2
  refine ⟨b, o', rfl, hb, fun j hj => ?_⟩
  rw [ho (by omega), Nat.add_assoc, hc (k + j) (by omega)]
  simp [List.getD_eq_getElem?_getD]

/-- What Take leaves, put together. -/
theorem take_end {b k : Nat} {most : Int} {v v1 v2 : Value} {xs : List Int} {w w1 w2 : World} (H : StkOf w b most v xs) (hO1 : Pure w w1) (hO2 : Pure w1 w2) (hk : Stk w2 b v most)
    (hk2 : k ≤ xs.length) (ho1 : w1.ownsRow w.heap.size 3 1 v1 (xs.take k).length (ints (xs.take k))) (ho2 : w2.ownsRow w1.heap.size 3 1 v2 (xs.drop k).length (ints (xs.drop k))) :
    StkOf (w2.setCell ⟨b, 0, none⟩ v2) b most v2 (xs.drop k) ∧ (w2.setCell ⟨b, 0, none⟩ v2).ownsRow w.heap.size 3 1 v1 k (ints (xs.take k)) ∧
      Only (fun i => i = b) w (w2.setCell ⟨b, 0, none⟩ v2) ∧ (∀ i, v2.ownBlock = some i → w.heap.size ≤ i ∧ v1.ownBlock ≠ some i) := by
  have hb : b < w.heap.size := H.at_.lt
  have hl : (xs.take k).length = k := by rw [List.length_take]; omega
  rw [hl] at ho1
  have hset : Only (fun i => i = b) w2 (w2.setCell ⟨b, 0, none⟩ v2) := (Only.refl (fun i => i = b) w2).setCell (p := ⟨b, 0, none⟩) (fun _ => rfl) _
  have hlt1 := ho1.lt
  have hlt2 := ho2.lt
  refine ⟨⟨hk.set v2, ?_, H.h0, H.h8, ?_, fun x hx => H.rng x (List.mem_of_mem_drop hx)⟩, ?_, ?_, ?_⟩
  · have := hset.own ho2 (fun i hi e => by have := (hlt2 i hi).1; have := hO1.size; omega)
    exact ⟨this.1, by rcases this.2 with h | ⟨g, c, cur, h1, h2, h3⟩; exact .inl h; exact .inr ⟨g, c, cur, h1, Nat.zero_le _, h3⟩⟩
  · have := H.le
    rw [List.length_drop]
    omega
  · exact hset.own (hO2.own ho1 (fun _ _ f => f)) (fun i hi e => by have := (hlt1 i hi).1; omega)
  · exact ((hO1.mono (fun _ _ f => f.elim)).trans (hO2.mono (T := fun i => i = b) (fun _ _ f => f.elim)) (fun _ _ e => e)).setCell (p := ⟨b, 0, none⟩) (fun _ => rfl) _
  · intro i hi
    have h2 := (hlt2 i hi).1
    refine ⟨Nat.le_trans hO1.size h2, fun e => ?_⟩
    have := (hlt1 i e).2
    omega

theorem take_ok (b : Nat) (most : Int) (k : Nat) (v : Value) (xs : List Int) (w : World) (h : StkOf w b most v xs) (hk : 1 ≤ k) (hk2 : k ≤ xs.length) :
    Calls Try.prog 13 #[.pointer (some ⟨b, 0, none⟩), .int .i64 k] w fun e w' => ∃ v1 v2, e = .returned (.tuple #[v1, .bool true]) ∧ StkOf w' b most v2 (xs.drop k) ∧
      w'.ownsRow w.heap.size 3 1 v1 k (ints (xs.take k)) ∧ Only (fun i => i = b) w w' ∧ (∀ i, v2.ownBlock = some i → w.heap.size ≤ i ∧ v1.ownBlock ≠ some i) := by
  have h0 := h.h0
  have h8 := h.h8
  have hle := h.le
  have H := Lib.hid h
  have hs := SlI.of_own h.own h.rng
  obtain ⟨g, c, e, hg, hgl⟩ := h.own.form (n := xs.length) (by omega)
  subst e
  have HK := Lib.hid h.at_
  have c0 := h.at_.c0
  clear h
  have hlt := hs.len
  obtain ⟨_, _, e, hlc, hcm⟩ := hlt
  injection e with e1 e2 e3
  subst e1; subst e3
  have HS := Lib.hid hs
  clear hs
  by_cases hck : c = k
  · obtain rfl : xs.length = k := by omega
    subst hck
    have hd : xs.drop xs.length = [] := by simp
    go_enter Try.func13, Try.ntmps13
    go_wp2_with fail
    refine (clone_any _ xs _ HS.out (by omega)).mono ?_
    rintro e w1 ⟨v1, rfl, hp1, hown1⟩
    have hO1 := Lib.hid hp1
    have hk1 := HK.out.only hp1 (fun f => f)
    have c1 := hk1.c0
    have f1 := hk1.free 0
    have HOWN1 := Lib.hid hown1
    have HK1 := Lib.hid hk1
    clear hp1 hk1 hown1
    go_wp2_with fail
    refine (clone_any _ [] _ ⟨_, 0, rfl, Nat.le_refl _, by simp [maxLen], by simp, by simp⟩ (by simp)).mono ?_
    rintro e w2 ⟨v2, rfl, hp2, hown2⟩
    obtain ⟨A2, c2, rfl⟩ := own_form hown2
    have hk2' := HK1.out.only hp2 (fun f => f)
    have c2' := hk2'.c0
    have f2 := hk2'.free 0
    have HOWN2 := Lib.hid hown2
    have HO2 := Lib.hid hp2
    have HK2 := Lib.hid hk2'
    clear hp2 hk2' hown2
    go_wp2
    go_ret2
    have ht : xs.take xs.length = xs := by simp
    exact ⟨_, _, rfl, take_end H.out hO1.out HO2.out HK2.out hk2 (by rw [ht]; exact HOWN1.out) (by rw [hd]; exact HOWN2.out)⟩
  · go_enter Try.func13, Try.ntmps13
    go_wp2_with fail
    refine (clone_any _ (xs.take k) _ (HS.out.take k hk2) (by rw [List.length_take]; omega)).mono ?_
    rintro e w1 ⟨v1, rfl, hp1, hown1⟩
    have hO1 := Lib.hid hp1
    have hk1 := HK.out.only hp1 (fun f => f)
    have c1 := hk1.c0
    have f1 := hk1.free 0
    have HOWN1 := Lib.hid hown1
    have HK1 := Lib.hid hk1
    have hs1 := HS.out.only hp1 (fun _ _ f => f)
    clear hp1 hk1 hown1
    go_wp2_with fail
    refine (clone_any _ (xs.drop k) _ (hs1.drop k hk2 k (fun _ => by omega)) (by rw [List.length_drop]; omega)).mono ?_
    clear hs1
    rintro e w2 ⟨v2, rfl, hp2, hown2⟩
    obtain ⟨A2, c2, rfl⟩ := own_form hown2
    have hk2' := HK1.out.only hp2 (fun f => f)
    have c2' := hk2'.c0
    have f2 := hk2'.free 0
    have HOWN2 := Lib.hid hown2
    have HO2 := Lib.hid hp2
    have HK2 := Lib.hid hk2'
    clear hp2 hk2' hown2
    go_wp2
    go_ret2
    exact ⟨_, _, rfl, take_end H.out hO1.out HO2.out HK2.out hk2 HOWN1.out (by have h := HOWN2.out; rw [List.length_drop] at h ⊢; exact h)⟩
/-- The same at a number k. -/
theorem take_okI (b : Nat) (most k : Int) (v : Value) (xs : List Int) (w : World) (h : StkOf w b most v xs) (hk : 1 ≤ k) (hk2 : k ≤ xs.length) :
    Calls Try.prog 13 #[.pointer (some ⟨b, 0, none⟩), .int .i64 k] w fun e w' => ∃ v1 v2, e = .returned (.tuple #[v1, .bool true]) ∧ StkOf w' b most v2 (xs.drop k.toNat) ∧
      w'.ownsRow w.heap.size 3 1 v1 k.toNat (ints (xs.take k.toNat)) ∧ Only (fun i => i = b) w w' ∧ (∀ i, v2.ownBlock = some i → w.heap.size ≤ i ∧ v1.ownBlock ≠ some i) := by
  obtain ⟨n, rfl⟩ := Int.eq_ofNat_of_zero_le (show 0 ≤ k by omega)
  exact take_ok b most n v xs w h (by omega) (by omega)

end Go.Proofs.Ytlnhehjdicpeoaa
