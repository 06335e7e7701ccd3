/-
  Chapter 19: the plain law: what the reference reads is what is printed.
-/
import Derived.Test.YtelkimgcbkmdmaaDoorOp
namespace Go.Proofs.YtelkimgcbkmdmaaDoor
open Go.RowKit

theorem hexF_step (v d : Nat) (hv : v < 1152921504606846976) (hd' : d < 16) : hexF v (hd d) = v * 16 + d := by
  have h1 : v * 16 % 18446744073709551616 = v * 16 := Nat.mod_eq_of_lt (by omega)
  have h2 : v * 16 ||| d = v * 16 + d := by
    have := Nat.shiftLeft_add_eq_or_of_lt (i := 4) (b := d) (by omega) v
    rw [Nat.shiftLeft_eq] at this
    exact this.symm
  unfold hexF
  rw [hd_code d hd', h1]
  by_cases h : d < 10
  · rw [if_pos h, if_pos (by omega), show 48 + d - 48 = d from by omega, h2]
  · rw [if_neg h, if_neg (by omega), if_pos (by omega), show 87 + d - 87 = d from by omega, h2]
theorem hexV_take (u : Nat) (hu : u < 18446744073709551616) : ∀ k, k ≤ 16 → hexV ((hexL u).take k) = u / 2 ^ (64 - 4 * k) := by
  intro k
  induction k with
  | zero => intro _; rw [Nat.div_eq_of_lt (by omega)]; rfl
  | succ k ih =>
    intro hk
    rw [hexV_snoc (hexL u) k _ (hexL_get u k (by omega)), ih (by omega), hexF_step _ _ (hex_small u k hu (by omega)) (by omega), show 64 - 4 * (k + 1) = 60 - 4 * k from by omega]
    exact (hex_step u k (by omega)).symm
theorem hexV_hexL (u : Nat) (hu : u < 18446744073709551616) : hexV (hexL u) = u := by
  have := hexV_take u hu 16 (Nat.le_refl _)
  rw [List.take_of_length_le (by rw [hexL_len]; omega)] at this
  simpa using this
theorem okH_hexL (u : Nat) (hu : u < 18446744073709551616) : okH (hexL u) = true := by
  unfold okH; rw [hexV_hexL u hu]; simp
theorem partB_twice (b : Nat) : partB (partB b) = partB b := by
  by_cases h : FloatKind.f64.format.order b b = some .eq
  · have : partB b = b := by unfold partB; rw [if_pos h]
    rw [this, this]
  · have : partB b = 9221120237041090560 := by unfold partB; rw [if_neg h]
    rw [this]; decide +kernel

/-- What an operation holds of another behind some signs. -/
def part (o : O19) (l : List UInt8) : O19 := l.foldl (fun z c => if c = 122 then { z with x := partB o.x, y := partB o.y } else setF c (fl c o) z) ⟨o.kind, 0, 0, 0, 0, 0, 0⟩
theorem ofK_kw (k : Nat) (h0 : 0 < k) (h : k < 19) : ofK (kw k) = k := by
  rcases (by omega : k = 1 ∨ k = 2 ∨ k = 3 ∨ k = 4 ∨ k = 5 ∨ k = 6 ∨ k = 7 ∨ k = 8 ∨ k = 9 ∨ k = 10 ∨ k = 11 ∨ k = 12 ∨ k = 13 ∨ k = 14 ∨ k = 15 ∨ k = 16 ∨ k = 17 ∨ k = 18) with rfl | rfl | rfl | rfl | rfl | rfl | rfl | rfl | rfl | rfl | rfl | rfl | rfl | rfl | rfl | rfl | rfl | rfl <;> decide
theorem rd_toks (o : O19) (ho : o.Ok) : rd (rn o.kind) (toks o (kn o.kind)) ⟨o.kind, 0, 0, 0, 0, 0, 0⟩ = (part o (kn o.kind), true) := by
  have ha := numR_itoa o.a ho.a.1 ho.a.2
  have hb := numR_itoa o.b ho.b.1 ho.b.2
  have hc := numR_itoa o.c ho.c.1 ho.c.2
  have hn := numR_itoa o.n ho.n.1 ho.n.2
  have hx := hexV_hexL (partB o.x) (partB_lt _ ho.x)
  have hy := hexV_hexL (partB o.y) (partB_lt _ ho.y)
  have kx := okH_hexL (partB o.x) (partB_lt _ ho.x)
  have ky := okH_hexL (partB o.y) (partB_lt _ ho.y)
  have hk := ho.k
  clear ho
  obtain ⟨k, a, b, c, n, x, y⟩ := o
  dsimp only at *
  rcases (by omega : k = 0 ∨ k = 1 ∨ k = 2 ∨ k = 3 ∨ k = 4 ∨ k = 5 ∨ k = 6 ∨ k = 7 ∨ k = 8 ∨ k = 9 ∨ k = 10 ∨ k = 11 ∨ k = 12 ∨ k = 13 ∨ k = 14 ∨ k = 15 ∨ k = 16 ∨ k = 17 ∨ k = 18) with rfl | rfl | rfl | rfl | rfl | rfl | rfl | rfl | rfl | rfl | rfl | rfl | rfl | rfl | rfl | rfl | rfl | rfl | rfl <;>
    simp [rn, rnL, kn, knL, toks, tk, rd, part, setF, fl, ha, hb, hc, hn, hx, hy, kx, ky]
theorem print_part (o : O19) (hk : o.kind < 19) : printL (part o (kn o.kind)) = printL o := by
  obtain ⟨k, a, b, c, n, x, y⟩ := o
  dsimp only at *
  rcases (by omega : k = 0 ∨ k = 1 ∨ k = 2 ∨ k = 3 ∨ k = 4 ∨ k = 5 ∨ k = 6 ∨ k = 7 ∨ k = 8 ∨ k = 9 ∨ k = 10 ∨ k = 11 ∨ k = 12 ∨ k = 13 ∨ k = 14 ∨ k = 15 ∨ k = 16 ∨ k = 17 ∨ k = 18) with rfl | rfl | rfl | rfl | rfl | rfl | rfl | rfl | rfl | rfl | rfl | rfl | rfl | rfl | rfl | rfl | rfl | rfl | rfl <;>
    simp [printL, kn, knL, toks, tk, part, setF, fl, partB_twice]

theorem dec_no (u : Nat) : ∀ b ∈ Lib.decDigits u, b ≠ 32 := by
  induction u using Nat.strongRecOn with
  | ind u ih =>
    intro b hb
    rw [Lib.decDigits] at hb
    have key : ∀ d, d < 10 → UInt8.ofNat (48 + d) ≠ 32 := fun d hd e => by
      have := congrArg UInt8.toNat e
      rw [dec_code d hd] at this
      exact absurd this (by simp; omega)
    split at hb
    · rw [List.mem_singleton] at hb; rw [hb]; exact key u (by omega)
    · rcases List.mem_append.1 hb with hb | hb
      · exact ih _ (by omega) b hb
      · rw [List.mem_singleton] at hb; rw [hb]; exact key _ (by omega)
theorem tok_no (o : O19) (l : List UInt8) : ∀ t ∈ toks o l, ∀ b ∈ t, b ≠ 32 := by
  intro t ht b hb
  obtain ⟨c, -, hc⟩ := List.mem_flatMap.1 ht
  have hx : ∀ u, ∀ b ∈ hexL u, b ≠ 32 := fun u b hb => by
    obtain ⟨i, -, rfl⟩ := List.mem_map.1 hb
    intro e
    have := congrArg UInt8.toNat e
    rw [hd_code _ (by omega)] at this
    split at this <;> simp at this <;> omega
  unfold tk at hc
  split at hc
  · rcases List.mem_cons.1 hc with rfl | hc
    · exact hx _ b hb
    · rw [List.mem_singleton] at hc; subst hc; exact hx _ b hb
  · rw [List.mem_singleton] at hc
    subst hc
    unfold Lib.itoa at hb
    split at hb
    · rcases List.mem_cons.1 hb with rfl | hb
      · decide
      · exact dec_no _ b hb
    · exact dec_no _ b hb
theorem kw_no (k : Nat) (h : k < 19) : ∀ b ∈ kw k, b ≠ 32 := by
  rcases (by omega : k = 0 ∨ k = 1 ∨ k = 2 ∨ k = 3 ∨ k = 4 ∨ k = 5 ∨ k = 6 ∨ k = 7 ∨ k = 8 ∨ k = 9 ∨ k = 10 ∨ k = 11 ∨ k = 12 ∨ k = 13 ∨ k = 14 ∨ k = 15 ∨ k = 16 ∨ k = 17 ∨ k = 18) with rfl | rfl | rfl | rfl | rfl | rfl | rfl | rfl | rfl | rfl | rfl | rfl | rfl | rfl | rfl | rfl | rfl | rfl | rfl <;> decide
theorem spl_behind (T : List (List UInt8)) : ∀ p : List UInt8, (∀ b ∈ p, b ≠ 32) → (∀ t ∈ T, ∀ b ∈ t, b ≠ 32) → spl (p ++ behind T) = p :: T := by
  induction T with
  | nil => intro p hp _; simp only [behind, List.flatMap_nil, List.append_nil]; exact spl_one p hp
  | cons t T ih =>
    intro p hp hT
    have he : p ++ behind (t :: T) = p ++ 32 :: (t ++ behind T) := by simp [behind]
    rw [he, spl_seg p _ hp, ih t (hT t (by simp)) (fun x hx => hT x (by simp [hx]))]
theorem spl_print (o : O19) (h : o.kind < 19) : spl (printL o) = kw o.kind :: toks o (kn o.kind) := spl_behind _ _ (kw_no _ h) (tok_no o _)
theorem parse_of (o : O19) (ho : o.Ok) (h0 : 0 < o.kind) : parseR (printL o) = some (part o (kn o.kind)) := by
  rw [parseR_eq (spl_print o ho.k) (ofK_kw _ h0 ho.k) h0 _ _ (rd_toks o ho), if_pos ⟨rfl, print_part o ho.k⟩]
theorem parse_some (s : List UInt8) (o : O19) (h : parseR s = some o) : o.Ok ∧ 0 < o.kind ∧ printL o = s ∧ part o (kn o.kind) = o := by
  have hk := ofK_lt ((spl s).headD [])
  have h' := h
  unfold parseR at h'
  simp only at h'
  split at h'
  · cases h'
  · rename_i h1
    have hz := rd_ok (rn (ofK ((spl s).headD []))) (spl s).tail ⟨ofK ((spl s).headD []), 0, 0, 0, 0, 0, 0⟩ ⟨hk, by simp, by simp, by simp, by simp, by simp, by simp⟩
    split at h'
    · rename_i h2
      injection h' with h'
      rw [h'] at hz h2
      have h0 : 0 < o.kind := by rw [hz.2]; show 0 < ofK _; omega
      have hp := parse_of o hz.1 h0
      rw [h2.2, h] at hp
      exact ⟨hz.1, h0, h2.2, (Option.some.inj hp).symm⟩
    · cases h'

end Go.Proofs.YtelkimgcbkmdmaaDoor
