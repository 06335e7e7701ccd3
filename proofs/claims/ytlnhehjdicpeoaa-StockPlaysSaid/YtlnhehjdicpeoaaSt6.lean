/-
  Contracts of the methods of the reference's Stock, and of CopyInts.
-/
import Derived.Test.YtlnhehjdicpeoaaSt4
import Derived.IntWalk
namespace Go.Proofs.Ytlnhehjdicpeoaa
open Go.RowKit

/-- A Stock behind a pointer to block b: the slice value v, the bound. -/
def Stx (w : World) (b : Nat) (v : Value) (most : Int) : Prop := w.heap[b]? = some (.cells #[.int .i64 most, v] 40 (0, 0))

section
variable {w w' : World} {b : Nat} {v : Value} {most : Int}
theorem Stx.lt (h : Stx w b v most) : b < w.heap.size := (Array.getElem?_eq_some_iff.1 h).1
theorem Stx.c0 (h : Stx w b v most) : w.cell? ⟨b, 1, none⟩ = some v := by rw [cell_of_row w b 1 _ _ _ h]; rfl
theorem Stx.c1 (h : Stx w b v most) : w.cell? ⟨b, 0, none⟩ = some (.int .i64 most) := by rw [cell_of_row w b 0 _ _ _ h]; rfl
theorem Stx.free (h : Stx w b v most) (i : Nat) : w.frozen? ⟨b, i, none⟩ = false := frozen_of_row w b i _ _ h
theorem Stx.only {S : Nat → Prop} (h : Stx w b v most) (ho : Only S w w') (hn : ¬ S b) : Stx w' b v most := (ho.block b h.lt hn).trans h
theorem Stx.set (h : Stx w b v most) (v' : Value) : Stx (w.setCell ⟨b, 1, none⟩ v') b v' most := by
  unfold Stx at h ⊢
  simp [World.setCell, Array.getElem?_modify, h]
theorem Stx.drewN (h : Stx w b v most) (n : Nat) : Stx (w.drewN n) b v most := h
theorem Stx.ne (h : Stx w b v most) {base n : Nat} {u : Value} {xs : List Value} (ho : w.ownsRow base 3 1 u n xs) {k : Nat} (hk : u.ownBlock = some k) : k ≠ b := by
  rintro rfl
  rcases ho.2 with ⟨rfl, _⟩ | ⟨g, cap, cur, rfl, _, hg, _⟩
  · simp [Value.ownBlock] at hk
  · simp only [Value.ownBlock, Option.some.injEq] at hk
    subst hk
    unfold Stx at h
    rw [h] at hg
    simp at hg
end

theorem room6_any (b : Nat) (A : Option Addr) (n c : Nat) (most : Int) (w : World) (h : Stx w b (.slice A n c) most) (hn : n ≤ 9223372036854775807) (h0 : 0 ≤ most) (h8 : most ≤ 8) :
    Calls Try.prog 21 #[.pointer (some ⟨b, 0, none⟩)] w fun e w' => e = .returned (.int .i64 (most - n)) ∧ ∃ d, w' = w.drewN d := by
  have c0 := h.c0
  have c1 := h.c1
  go_enter Try.func21, Try.ntmps21
  go_wp2
  go_quiet (fail)
  go_wp2
  go_ret
  exact ⟨rfl, _, rfl⟩

theorem drain6_any (b : Nat) (v : Value) (most : Int) (w : World) (h : Stx w b v most) :
    Calls Try.prog 20 #[.pointer (some ⟨b, 0, none⟩)] w fun e w' => e = .returned v ∧ w' = w.setCell ⟨b, 1, none⟩ (.slice none 0 0) := by
  have c0 := h.c0
  have f0 := h.free 1
  go_enter Try.func20, Try.ntmps20
  go_wp2
  go_ret
  exact ⟨rfl, rfl⟩

/-- sporef.CopyInts: a row of the call's own with the same numbers. -/
theorem copy_any (v : Value) (xs : List Int) (w : World) (h : SlI w w.heap.size v xs) (hx : xs.length ≤ 1000000) :
    Calls Try.prog 23 #[v] w fun e w' => ∃ v', e = .returned v' ∧ Pure w w' ∧ w'.ownsRow w.heap.size 3 1 v' xs.length (ints xs) := by
  obtain ⟨i0, hi0, hz0, hz1, hz2⟩ := info_parts int_info
  obtain ⟨A, c, rfl, h1, h2, h3, h4⟩ := id h
  have hs := h.src.2
  have hs' : Src (w.alloc (.cells #[] 3)) 1 A xs.length (ints xs) := hs.below ((Below.refl w.heap.size w).alloc (Nat.le_refl _) _) (fun b hm e => by obtain ⟨b', off, e', hb, _⟩ := h4 hm; rw [e'] at e; injection e with e; subst e; exact hb)
  clear h h4
  go_enter Try.func23, Try.ntmps23
  go_wp2_with (at_builtin; refine wpList_app _ rfl (.tmp 3) (.tmp 4) _ rfl w.heap.size 3 i0 _ 1 8 Try.underlying23 hi0 hz0 hz1 hz2 rfl (by omega) _ 0 [] rfl (World.ownsRow_made w #[] 0 (Nat.le_refl _) (by simp [maxLen]) rfl) _ _ _ _ rfl hs' (ints_one xs) (by simp only [maxLen]; omega) (by omega) (by simp) ?_; intro v1 w1 hown1 hg1 hat1)
  go_ret
  refine ⟨_, rfl, ((Only.refl _ _).alloc _).grown hg1 (fun k hk e => ?_), by simpa using hown1⟩
  injection e with e
  exact absurd e (Nat.ne_of_gt hk)

/-- A Stock in block b that keeps the numbers xs: its slice owns its row. -/
structure StxOf (w : World) (b : Nat) (most : Int) (v : Value) (xs : List Int) : Prop where
  at_ : Stx w b v most
  own : w.ownsRow 0 3 1 v xs.length (ints xs)
  h0 : 0 ≤ most
  h8 : most ≤ 8
  le : (xs.length : Int) ≤ most
  rng : ∀ x ∈ xs, -9223372036854775808 ≤ x ∧ x ≤ 9223372036854775807

/-- What a method of the Stock in block b may change. -/
def StxS (b : Nat) (v : Value) (k : Nat) : Prop := k = b ∨ v.ownBlock = some k

section
variable {w w' : World} {b : Nat} {v : Value} {most : Int} {xs : List Int}
theorem StxOf.form (h : StxOf w b most v xs) : ∃ A c, v = .slice A xs.length c ∧ xs.length ≤ 9223372036854775807 := by
  obtain ⟨A, c, e, h1, h2⟩ := (SlI.of_own h.own h.rng).len
  exact ⟨A, c, e, by omega⟩
theorem StxOf.only {S : Nat → Prop} (h : StxOf w b most v xs) (ho : Only S w w') (hn : ∀ k, StxS b v k → ¬ S k) : StxOf w' b most v xs :=
  ⟨h.at_.only ho (hn b (.inl rfl)), ho.own h.own (fun k hk => hn k (.inr hk)), h.h0, h.h8, h.le, h.rng⟩
theorem StxOf.drewN (h : StxOf w b most v xs) (n : Nat) : StxOf (w.drewN n) b most v xs := h.only ((Only.refl (fun _ => False) w).drewN n) (fun _ _ f => f)
end

theorem put6_no (b : Nat) (most : Int) (v sv : Value) (xs ys : List Int) (w : World) (h : StxOf w b most v xs) (hs : SlI w w.heap.size sv ys) (hno : most < xs.length + ys.length) :
    Calls Try.prog 16 #[.pointer (some ⟨b, 0, none⟩), sv] w fun e w' => e = .returned (.bool false) ∧ ∃ d, w' = w.drewN d := by
  obtain ⟨A, c, rfl, hl⟩ := h.form
  obtain ⟨A2, c2, rfl, hl2, hm2⟩ := hs.len
  have hk := h.at_
  have h0 := h.h0
  have h8 := h.h8
  have hno' : most - (xs.length : Int) < ys.length := by omega
  have H := Lib.hid h
  clear h hs
  go_enter Try.func16, Try.ntmps16
  go_wp2_with (go_at_call 21; refine (room6_any b _ _ _ most _ hk hl h0 h8).mono ?_; rintro e w' ⟨rfl, d, rfl⟩)
  go_ret
  exact ⟨rfl, d, rfl⟩

theorem put6_ok (b : Nat) (most : Int) (v sv : Value) (xs ys : List Int) (w : World) (h : StxOf w b most v xs) (hs : SlI w w.heap.size sv ys) (hok : (xs.length : Int) + ys.length ≤ most) :
    Calls Try.prog 16 #[.pointer (some ⟨b, 0, none⟩), sv] w fun e w' => ∃ v', e = .returned (.bool true) ∧ StxOf w' b most v' (xs ++ ys) ∧ Only (StxS b v) w w' ∧
      (v'.ownBlock = v.ownBlock ∨ ∃ k, v'.ownBlock = some k ∧ w.heap.size ≤ k) := by
  obtain ⟨i0, hi0, hz0, hz1, hz2⟩ := info_parts int_info
  obtain ⟨A, c, rfl, hl⟩ := h.form
  have hs0 := hs
  obtain ⟨A2, c2, rfl, hl2, hm2⟩ := hs.len
  have hk := h.at_
  have h0 := h.h0
  have h8 := h.h8
  have hok' : ¬ most - (xs.length : Int) < ys.length := by omega
  have H := Lib.hid h
  have HS := Lib.hid hs0
  have hsrc := hs.src.2
  clear h hs hs0
  have c0 := hk.c0
  have f0 := hk.free 1
  go_enter Try.func16, Try.ntmps16
  go_wp2_with (first
    | (go_at_call 21; refine (room6_any b _ _ _ most _ hk hl h0 h8).mono ?_; rintro e w' ⟨rfl, d, rfl⟩)
    | (at_builtin; refine wpList_app _ rfl (.tmp 14) (.tmp 15) _ rfl 0 3 i0 _ 1 8 Try.underlying23 hi0 hz0 hz1 hz2 rfl (by omega) (.slice A xs.length c) xs.length (ints xs) rfl (H.out.drewN d).own A2 ys.length c2 (ints ys) rfl hsrc (ints_one ys) (by simp only [maxLen]; omega) (by omega) (by omega) ?_; intro v1 w1 hown1 hg1 hat1; obtain ⟨A3, c3, rfl⟩ := own_form hown1; have hO := (Only.refl (fun k => (Value.slice A xs.length c).ownBlock = some k) (w.drewN d)).grown hg1 (fun _ _ e => e); have hk1 := (hk.drewN d).only hO (fun e => hk.ne H.out.own e rfl); have c1 := hk1.c0; have f1 := hk1.free 1))
  go_ret
  have hk2 := hk1.set (.slice A3 (xs.length + ys.length) c3)
  have hne : ∀ k, (Value.slice A3 (xs.length + ys.length) c3).ownBlock = some k → k ≠ b := fun k hk' => hk1.ne hown1 hk'
  refine ⟨_, rfl, ⟨hk2, ?_, h0, h8, by simp only [List.length_append]; omega, ?_⟩, ?_, ?_⟩
  · rw [List.length_append, ints_append]
    exact ((Only.refl (fun k => k = b) w1).setCell (p := ⟨b, 1, none⟩) (fun _ => rfl) _).own hown1 (fun k hk' => hne k hk')
  · intro x hx
    rcases List.mem_append.1 hx with hx | hx
    · exact H.out.rng x hx
    · obtain ⟨_, _, _, _, _, h3, _⟩ := HS.out
      exact h3 x hx
  · exact (((Only.refl (StxS b (Value.slice A xs.length c)) w).drewN d).grown hg1 (fun k _ e => .inr e)).setCell (fun _ => .inl rfl) _
  · rcases hat1 with e | e
    · exact .inl e
    · exact .inr ⟨_, e, Nat.le_refl _⟩

theorem take6_no (b : Nat) (most k : Int) (v : Value) (xs : List Int) (w : World) (h : StxOf w b most v xs) (hk : k < 1 ∨ (xs.length : Int) < k) :
    Calls Try.prog 17 #[.pointer (some ⟨b, 0, none⟩), .int .i64 k] w fun e w' => e = .returned (.tuple #[.slice none 0 0, .bool false]) ∧ w = w' := by
  obtain ⟨A, c, rfl, hl⟩ := h.form
  have c0 := h.at_.c0
  clear h
  by_cases h1 : k < 1
  · clear hk
    go_enter Try.func17, Try.ntmps17
    go_wp2
    go_ret2
    exact ⟨rfl, rfl⟩
  · have h2 : (xs.length : Int) < k := by omega
    clear hk
    go_enter Try.func17, Try.ntmps17
    go_wp2
    go_ret2
    exact ⟨rfl, rfl⟩

/-- What Take leaves, put together. -/
theorem take6_end {b k : Nat} {most : Int} {v v1 v2 : Value} {xs : List Int} {w w1 w2 : World} (H : StxOf w b most v xs) (hO1 : Pure w w1) (hO2 : Pure w1 w2) (hk : Stx w2 b v most)
    (hk2 : k ≤ xs.length) (ho1 : w1.ownsRow w.heap.size 3 1 v1 (xs.take k).length (ints (xs.take k))) (ho2 : w2.ownsRow w1.heap.size 3 1 v2 (xs.drop k).length (ints (xs.drop k))) :
    StxOf (w2.setCell ⟨b, 1, none⟩ v2) b most v2 (xs.drop k) ∧ (w2.setCell ⟨b, 1, none⟩ v2).ownsRow w.heap.size 3 1 v1 k (ints (xs.take k)) ∧
      Only (fun i => i = b) w (w2.setCell ⟨b, 1, none⟩ v2) ∧ (∀ i, v2.ownBlock = some i → w.heap.size ≤ i ∧ v1.ownBlock ≠ some i) := by
  have hb : b < w.heap.size := H.at_.lt
  have hl : (xs.take k).length = k := by rw [List.length_take]; omega
  rw [hl] at ho1
  have hset : Only (fun i => i = b) w2 (w2.setCell ⟨b, 1, none⟩ v2) := (Only.refl (fun i => i = b) w2).setCell (p := ⟨b, 1, none⟩) (fun _ => rfl) _
  have hlt1 := ho1.lt
  have hlt2 := ho2.lt
  refine ⟨⟨hk.set v2, ?_, H.h0, H.h8, ?_, fun x hx => H.rng x (List.mem_of_mem_drop hx)⟩, ?_, ?_, ?_⟩
  · have := hset.own ho2 (fun i hi e => by have := (hlt2 i hi).1; have := hO1.size; omega)
    exact ⟨this.1, by rcases this.2 with h | ⟨g, c, cur, h1, h2, h3⟩; exact .inl h; exact .inr ⟨g, c, cur, h1, Nat.zero_le _, h3⟩⟩
  · have := H.le
    rw [List.length_drop]
    omega
  · exact hset.own (hO2.own ho1 (fun _ _ f => f)) (fun i hi e => by have := (hlt1 i hi).1; omega)
  · exact ((hO1.mono (fun _ _ f => f.elim)).trans (hO2.mono (T := fun i => i = b) (fun _ _ f => f.elim)) (fun _ _ e => e)).setCell (p := ⟨b, 1, none⟩) (fun _ => rfl) _
  · intro i hi
    have h2 := (hlt2 i hi).1
    refine ⟨Nat.le_trans hO1.size h2, fun e => ?_⟩
    have := (hlt1 i e).2
    omega

theorem take6_ok (b : Nat) (most : Int) (k : Nat) (v : Value) (xs : List Int) (w : World) (h : StxOf w b most v xs) (hk : 1 ≤ k) (hk2 : k ≤ xs.length) :
    Calls Try.prog 17 #[.pointer (some ⟨b, 0, none⟩), .int .i64 k] w fun e w' => ∃ v1 v2, e = .returned (.tuple #[v1, .bool true]) ∧ StxOf w' b most v2 (xs.drop k) ∧
      w'.ownsRow w.heap.size 3 1 v1 k (ints (xs.take k)) ∧ Only (fun i => i = b) w w' ∧ (∀ i, v2.ownBlock = some i → w.heap.size ≤ i ∧ v1.ownBlock ≠ some i) := by
  have h0 := h.h0
  have h8 := h.h8
  have hle := h.le
  have H := Lib.hid h
  have hs := SlI.of_own h.own h.rng
  obtain ⟨g, c, e, hg, hgl⟩ := h.own.form (n := xs.length) (by omega)
  subst e
  have HK := Lib.hid h.at_
  have c0 := h.at_.c0
  clear h
  have hlt := hs.len
  obtain ⟨_, _, e, hlc, hcm⟩ := hlt
  injection e with e1 e2 e3
  subst e1; subst e3
  have HS := Lib.hid hs
  clear hs
  by_cases hck : c = k
  · obtain rfl : xs.length = k := by omega
    subst hck
    have hd : xs.drop xs.length = [] := by simp
    go_enter Try.func17, Try.ntmps17
    go_wp2_with fail
    refine (copy_any _ xs _ HS.out (by omega)).mono ?_
    rintro e w1 ⟨v1, rfl, hp1, hown1⟩
    have hO1 := Lib.hid hp1
    have hk1 := HK.out.only hp1 (fun f => f)
    have c1 := hk1.c0
    have f1 := hk1.free 1
    have HOWN1 := Lib.hid hown1
    have HK1 := Lib.hid hk1
    clear hp1 hk1 hown1
    go_wp2_with fail
    refine (copy_any _ [] _ ⟨_, 0, rfl, Nat.le_refl _, by simp [maxLen], by simp, by simp⟩ (by simp)).mono ?_
    rintro e w2 ⟨v2, rfl, hp2, hown2⟩
    obtain ⟨A2, c2, rfl⟩ := own_form hown2
    have hk2' := HK1.out.only hp2 (fun f => f)
    have c2' := hk2'.c0
    have f2 := hk2'.free 1
    have HOWN2 := Lib.hid hown2
    have HO2 := Lib.hid hp2
    have HK2 := Lib.hid hk2'
    clear hp2 hk2' hown2
    go_wp2
    go_ret2
    have ht : xs.take xs.length = xs := by simp
    exact ⟨_, _, rfl, take6_end H.out hO1.out HO2.out HK2.out hk2 (by rw [ht]; exact HOWN1.out) (by rw [hd]; exact HOWN2.out)⟩
  · go_enter Try.func17, Try.ntmps17
    go_wp2_with fail
    refine (copy_any _ (xs.take k) _ (HS.out.take k hk2) (by rw [List.length_take]; omega)).mono ?_
    rintro e w1 ⟨v1, rfl, hp1, hown1⟩
    have hO1 := Lib.hid hp1
    have hk1 := HK.out.only hp1 (fun f => f)
    have c1 := hk1.c0
    have f1 := hk1.free 1
    have HOWN1 := Lib.hid hown1
    have HK1 := Lib.hid hk1
    have hs1 := HS.out.only hp1 (fun _ _ f => f)
    clear hp1 hk1 hown1
    go_wp2_with fail
    refine (copy_any _ (xs.drop k) _ (hs1.drop k hk2 k (fun _ => by omega)) (by rw [List.length_drop]; omega)).mono ?_
    clear hs1
    rintro e w2 ⟨v2, rfl, hp2, hown2⟩
    obtain ⟨A2, c2, rfl⟩ := own_form hown2
    have hk2' := HK1.out.only hp2 (fun f => f)
    have c2' := hk2'.c0
    have f2 := hk2'.free 1
    have HOWN2 := Lib.hid hown2
    have HO2 := Lib.hid hp2
    have HK2 := Lib.hid hk2'
    clear hp2 hk2' hown2
    go_wp2
    go_ret2
    exact ⟨_, _, rfl, take6_end H.out hO1.out HO2.out HK2.out hk2 HOWN1.out (by have h := HOWN2.out; rw [List.length_drop] at h ⊢; exact h)⟩
/-- The same at a number k. -/
theorem take6_okI (b : Nat) (most k : Int) (v : Value) (xs : List Int) (w : World) (h : StxOf w b most v xs) (hk : 1 ≤ k) (hk2 : k ≤ xs.length) :
    Calls Try.prog 17 #[.pointer (some ⟨b, 0, none⟩), .int .i64 k] w fun e w' => ∃ v1 v2, e = .returned (.tuple #[v1, .bool true]) ∧ StxOf w' b most v2 (xs.drop k.toNat) ∧
      w'.ownsRow w.heap.size 3 1 v1 k.toNat (ints (xs.take k.toNat)) ∧ Only (fun i => i = b) w w' ∧ (∀ i, v2.ownBlock = some i → w.heap.size ≤ i ∧ v1.ownBlock ≠ some i) := by
  obtain ⟨n, rfl⟩ := Int.eq_ofNat_of_zero_le (show 0 ≤ k by omega)
  exact take6_ok b most n v xs w h (by omega) (by omega)

theorem side6_any (v : Value) (xs : List Int) (w : World) (B : Nat) (h : SlI w B v xs) :
    Calls Try.prog 15 #[v] w fun e w' => e = .returned (.bool (sideB xs)) ∧ ∃ n, w' = w.drewN n := by
  obtain ⟨A, c, rfl, h1, h2, h3, h4⟩ := h
  unfold maxLen at h2
  go_enter Try.func15, Try.ntmps15
  go_wp2
  go_loopw [3] (fun i wr => ∃ k d : Nat, 1 ≤ k ∧ i = .int .i64 k ∧ wr = w.drewN d ∧ (∀ i, i + 1 < k → i < xs.length - 1 → xs.getD i 0 ≠ 9223372036854775807 ∧ xs.getD (i + 1) 0 = xs.getD i 0 + 1)) (fun i _ => xs.length - (intOf i).toNat)
  case atStart => exact ⟨1, 0, by omega, rfl, rfl, by omega⟩
  case round =>
    obtain ⟨k, d, hk, rfl, rfl, hrel⟩ := hrel
    by_cases hlt : k < xs.length
    · obtain ⟨b, off, rfl, hb, hc⟩ := h4 (by omega)
      have c1 := hc (k - 1) (by omega)
      have c2 := hc k hlt
      have b1 := h3 (xs.getD (k - 1) 0) (getD_mem xs (k - 1) (by omega))
      have hyb := h3 (xs.getD k 0) (getD_mem xs k hlt)
      have key : (∀ i, i + 1 < k + 1 → i < xs.length - 1 → xs.getD i 0 ≠ 9223372036854775807 ∧ xs.getD (i + 1) 0 = xs.getD i 0 + 1) ↔ (xs.getD (k - 1) 0 ≠ 9223372036854775807 ∧ xs.getD k 0 = xs.getD (k - 1) 0 + 1) := by
        constructor
        · intro h
          have := h (k - 1) (by omega) (by omega)
          rwa [Nat.sub_add_cancel hk] at this
        · rintro h i h5 h6
          by_cases hi : i + 1 < k
          · exact hrel i hi h6
          · obtain rfl : i = k - 1 := by omega
            rwa [Nat.sub_add_cancel hk]
      have hno : ¬ (xs.getD (k - 1) 0 ≠ 9223372036854775807 ∧ xs.getD k 0 = xs.getD (k - 1) 0 + 1) → sideB xs = false := by
        intro h
        simp only [sideB, decide_eq_false_iff_not]
        intro h'
        have := h' (k - 1) (by omega)
        rw [Nat.sub_add_cancel hk] at this
        exact h this
      have KEY := Lib.hid key
      have HNO := Lib.hid hno
      have HREL := Lib.hid hrel
      clear hc h4 key hno hrel
      generalize xs.getD (k - 1) 0 = x at *
      generalize xs.getD k 0 = y at *
      have kk : ((k - 1 : Nat) : Int) = (k : Int) - 1 := by omega
      have u1 : IntKind.i64.wrap ((k : Int) - 1) = (k : Int) - 1 := IntWalk.i64_in _ (by omega)
      have b2 := hyb
      rcases (by omega : y ≤ x ∨ (x < y ∧ y - 1 ≠ x) ∨ (x < y ∧ y - 1 = x)) with hy | ⟨hy1, hy2⟩ | ⟨hy1, hy2⟩
      · have hd : decide (y ≤ x) = true := by simpa using hy
        have NO := Lib.hid (HNO.out (by omega))
        clear hy
        go_wp2_with fail
        go_quiet (fail)
        go_wp2
        go_ret
        exact ⟨ret_b NO.out, _, World.drewN_drewN ..⟩
      · have hd : decide (y ≤ x) = false := by simp; omega
        have hn : (y - 1 != x) = true := by simpa using hy2
        have u2 : IntKind.i64.wrap (y - 1) = y - 1 := IntWalk.i64_in _ (by omega)
        have NO := Lib.hid (HNO.out (by omega))
        clear hy1 hy2 b1 b2 hyb
        go_wp2_with fail
        go_quiet (fail)
        go_wp2
        go_ret
        exact ⟨ret_b NO.out, _, World.drewN_drewN ..⟩
      · have hd : decide (y ≤ x) = false := by simp; omega
        have hn : (y - 1 != x) = false := by simpa using hy2
        have u2 : IntKind.i64.wrap (y - 1) = y - 1 := IntWalk.i64_in _ (by omega)
        have YES := Lib.hid (KEY.out.2 ⟨by omega, by omega⟩)
        clear hy1 hy2 b1 b2 hyb
        go_wp2_with fail
        go_quiet (fail)
        go_wp2
        go_roundw
        case rel => exact ⟨k + 1, _, by omega, by go_num, rfl, YES.out⟩
        case measure => simp [intOf]; omega
    · have hyes : sideB xs = true := by
        simp only [sideB, decide_eq_true_eq]
        intro i hi
        exact hrel i (by omega) hi
      have HYES := Lib.hid hyes
      clear hyes hrel
      go_wp2
      go_ret
      exact ⟨ret_b HYES.out, _, rfl⟩
end Go.Proofs.Ytlnhehjdicpeoaa
