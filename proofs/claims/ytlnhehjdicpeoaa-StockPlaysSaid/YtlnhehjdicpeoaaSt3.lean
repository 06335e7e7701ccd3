/-
  Contracts of stock.Put and stock.Take.
-/
import Derived.Test.YtlnhehjdicpeoaaSt2
namespace Go.Proofs.Ytlnhehjdicpeoaa
open Go.RowKit

/-- A Stock in block b that keeps the numbers xs: its slice owns its row. -/
structure StkOf (w : World) (b : Nat) (most : Int) (v : Value) (xs : List Int) : Prop where
  at_ : Stk w b v most
  own : w.ownsRow 0 3 1 v xs.length (ints xs)
  h0 : 0 ≤ most
  h8 : most ≤ 8
  le : (xs.length : Int) ≤ most
  rng : ∀ x ∈ xs, -9223372036854775808 ≤ x ∧ x ≤ 9223372036854775807

/-- What a method of the Stock in block b may change. -/
def StkS (b : Nat) (v : Value) (k : Nat) : Prop := k = b ∨ v.ownBlock = some k

section
variable {w w' : World} {b : Nat} {v : Value} {most : Int} {xs : List Int}
theorem StkOf.form (h : StkOf w b most v xs) : ∃ A c, v = .slice A xs.length c ∧ xs.length ≤ 9223372036854775807 := by
  obtain ⟨A, c, e, h1, h2⟩ := (SlI.of_own h.own h.rng).len
  exact ⟨A, c, e, by omega⟩
theorem StkOf.only {S : Nat → Prop} (h : StkOf w b most v xs) (ho : Only S w w') (hn : ∀ k, StkS b v k → ¬ S k) : StkOf w' b most v xs :=
  ⟨h.at_.only ho (hn b (.inl rfl)), ho.own h.own (fun k hk => hn k (.inr hk)), h.h0, h.h8, h.le, h.rng⟩
theorem StkOf.drewN (h : StkOf w b most v xs) (n : Nat) : StkOf (w.drewN n) b most v xs := h.only ((Only.refl (fun _ => False) w).drewN n) (fun _ _ f => f)
end

theorem put_no (b : Nat) (most : Int) (v sv : Value) (xs ys : List Int) (w : World) (h : StkOf w b most v xs) (hs : SlI w w.heap.size sv ys) (hno : most < xs.length + ys.length) :
    Calls Try.prog 12 #[.pointer (some ⟨b, 0, none⟩), sv] w fun e w' => e = .returned (.bool false) ∧ ∃ d, w' = w.drewN d := by
  obtain ⟨A, c, rfl, hl⟩ := h.form
  obtain ⟨A2, c2, rfl, hl2, hm2⟩ := hs.len
  have hk := h.at_
  have h0 := h.h0
  have h8 := h.h8
  have hno' : most - (xs.length : Int) < ys.length := by omega
  have H := Lib.hid h
  clear h hs
  go_enter Try.func12, Try.ntmps12
  go_wp2_with (go_at_call 11; refine (room_any b _ _ _ most _ hk hl h0 h8).mono ?_; rintro e w' ⟨rfl, d, rfl⟩)
  go_ret
  exact ⟨rfl, d, rfl⟩

theorem put_ok (b : Nat) (most : Int) (v sv : Value) (xs ys : List Int) (w : World) (h : StkOf w b most v xs) (hs : SlI w w.heap.size sv ys) (hok : (xs.length : Int) + ys.length ≤ most) :
    Calls Try.prog 12 #[.pointer (some ⟨b, 0, none⟩), sv] w fun e w' => ∃ v', e = .returned (.bool true) ∧ StkOf w' b most v' (xs ++ ys) ∧ Only (StkS b v) w w' ∧
      (v'.ownBlock = v.ownBlock ∨ ∃ k, v'.ownBlock = some k ∧ w.heap.size ≤ k) := by
  obtain ⟨i0, hi0, hz0, hz1, hz2⟩ := info_parts int_info
  obtain ⟨A, c, rfl, hl⟩ := h.form
  have hs0 := hs
  obtain ⟨A2, c2, rfl, hl2, hm2⟩ := hs.len
  have hk := h.at_
  have h0 := h.h0
  have h8 := h.h8
  have hok' : ¬ most - (xs.length : Int) < ys.length := by omega
  have H := Lib.hid h
  have HS := Lib.hid hs0
  have hsrc := hs.src.2
  clear h hs hs0
  have c0 := hk.c0
  have f0 := hk.free 0
  go_enter Try.func12, Try.ntmps12
  go_wp2_with (first
    | (go_at_call 11; refine (room_any b _ _ _ most _ hk hl h0 h8).mono ?_; rintro e w' ⟨rfl, d, rfl⟩)
    | (at_builtin; refine wpList_app _ rfl (.tmp 14) (.tmp 15) _ rfl 0 3 i0 _ 1 8 Try.underlying23 hi0 hz0 hz1 hz2 rfl (by omega) (.slice A xs.length c) xs.length (ints xs) rfl (H.out.drewN d).own A2 ys.length c2 (ints ys) rfl hsrc (ints_one ys) (by simp only [maxLen]; omega) (by omega) (by omega) ?_; intro v1 w1 hown1 hg1 hat1; obtain ⟨A3, c3, rfl⟩ := own_form hown1; have hO := (Only.refl (fun k => (Value.slice A xs.length c).ownBlock = some k) (w.drewN d)).grown hg1 (fun _ _ e => e); have hk1 := (hk.drewN d).only hO (fun e => hk.ne H.out.own e rfl); have c1 := hk1.c0; have f1 := hk1.free 0))
  go_ret
  have hk2 := hk1.set (.slice A3 (xs.length + ys.length) c3)
  have hne : ∀ k, (Value.slice A3 (xs.length + ys.length) c3).ownBlock = some k → k ≠ b := fun k hk' => hk1.ne hown1 hk'
  refine ⟨_, rfl, ⟨hk2, ?_, h0, h8, by simp only [List.length_append]; omega, ?_⟩, ?_, ?_⟩
  · rw [List.length_append, ints_append]
    exact ((Only.refl (fun k => k = b) w1).setCell (p := ⟨b, 0, none⟩) (fun _ => rfl) _).own hown1 (fun k hk' => hne k hk')
  · intro x hx
    rcases List.mem_append.1 hx with hx | hx
    · exact H.out.rng x hx
    · obtain ⟨_, _, _, _, _, h3, _⟩ := HS.out
      exact h3 x hx
  · exact (((Only.refl (StkS b (Value.slice A xs.length c)) w).drewN d).grown hg1 (fun k _ e => .inr e)).setCell (fun _ => .inl rfl) _
  · rcases hat1 with e | e
    · exact .inl e
    · exact .inr ⟨_, e, Nat.le_refl _⟩

end Go.Proofs.Ytlnhehjdicpeoaa
