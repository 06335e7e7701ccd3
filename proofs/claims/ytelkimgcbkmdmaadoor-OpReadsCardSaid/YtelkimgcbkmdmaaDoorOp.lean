/-
  Chapter 19: strings.Split by a blank.
-/
import Derived.Test.YtelkimgcbkmdmaaDoorOn
import Derived.Lib.Split
import Derived.Lib.IndexBytes
namespace Go.Proofs.YtelkimgcbkmdmaaDoor
open Go.RowKit

theorem ib_none (l : List UInt8) (h : ∀ b ∈ l, b ≠ 32) : Lib.indexByte l 32 = -1 := by
  induction l with
  | nil => rfl
  | cons b l ih =>
    have hb : b ≠ 32 := h b (by simp)
    have := ih (fun c hc => h c (by simp [hc]))
    simp [Lib.indexByte, hb, this]
theorem ib_hit (p q : List UInt8) (h : ∀ b ∈ p, b ≠ 32) : Lib.indexByte (p ++ 32 :: q) 32 = p.length := by
  induction p with
  | nil => simp [Lib.indexByte]
  | cons b p ih =>
    have hb : b ≠ 32 := h b (by simp)
    have := ih (fun c hc => h c (by simp [hc]))
    simp [Lib.indexByte, hb, this]
theorem cut32 (l : List UInt8) : (∀ b ∈ l, b ≠ 32) ∨ ∃ p q, l = p ++ 32 :: q ∧ ∀ b ∈ p, b ≠ 32 := by
  induction l with
  | nil => exact .inl (by simp)
  | cons b l ih =>
    by_cases hb : b = 32
    · exact .inr ⟨[], l, by rw [hb]; rfl, by simp⟩
    · rcases ih with h | ⟨p, q, rfl, h⟩
      · exact .inl fun c hc => by
          rcases List.mem_cons.1 hc with rfl | hc
          · exact hb
          · exact h c hc
      · exact .inr ⟨b :: p, q, rfl, fun c hc => by
          rcases List.mem_cons.1 hc with rfl | hc
          · exact hb
          · exact h c hc⟩
theorem split_spl (n : Nat) : ∀ l : List UInt8, l.length ≤ n → Lib.splitK [32] 0 (Lib.count l [32]) l = spl l := by
  induction n with
  | zero =>
    intro l hl
    obtain rfl : l = [] := List.length_eq_zero_iff.1 (by omega)
    rfl
  | succ n ih =>
    intro l hl
    rcases cut32 l with h | ⟨p, q, rfl, h⟩
    · rw [Lib.count_miss (by rw [Lib.index_one]; exact ib_none l h), spl_one l h]
      rfl
    · have hi : Lib.index (p ++ 32 :: q) [32] = (p.length : Int) := by rw [Lib.index_one]; exact ib_hit p q h
      have hc := Lib.count_hit (s := p ++ 32 :: q) (sub := [32]) (by simp) hi
      have hd : (p ++ 32 :: q).drop (p.length + [(32 : UInt8)].length) = q := by simp
      rw [hd] at hc
      rw [hc, Nat.add_comm, spl_seg p q h]
      unfold Lib.splitK
      rw [if_neg (by rw [hi]; simp), hi]
      have ht : (p ++ 32 :: q).take ((p.length : Int).toNat + 0) = p := by simp
      rw [ht, show ((p.length : Int)).toNat = p.length from rfl, hd, ih q (by simp at hl; omega)]
theorem strings_split (l : List UInt8) (w : World) (hl : l.length ≤ 1000) (he : Env w) : Calls Tryd.prog 9 #[.string (str l), .string { data := #[32] }] w fun e w' => e = .returned (.slice (some ⟨w.heap.size, 0, none⟩) (spl l).length (spl l).length) ∧ Pure w w' ∧ w'.ownsRow w.heap.size 9 1 (.slice (some ⟨w.heap.size, 0, none⟩) (spl l).length (spl l).length) (spl l).length (strs (spl l)) := by
  have hsz := str_size l
  obtain ⟨m, hm⟩ := he.c3
  have hlen := (spl_short l).1
  have hB := Lib.splitB_data { data := #[32] } 0 (Lib.countB (str l) { data := #[32] }) (str l)
  have hdl : (str l).data.toList = l := by simp [str]
  have hcn : Lib.countB (str l) { data := #[32] } = Lib.count l [32] := by show Lib.count (str l).data.toList [32] = _; rw [hdl]
  have hK : Lib.splitK [32] 0 (Lib.count l [32]) l = spl l := split_spl l.length l (Nat.le_refl _)
  have hB2 : (Lib.splitB { data := #[32] } 0 (Lib.countB (str l) { data := #[32] }) (str l)).map (·.data.toList) = spl l := by
    rw [hB, hdl, hcn]; exact hK
  have hpc : (Lib.splitB { data := #[32] } 0 (Lib.countB (str l) { data := #[32] }) (str l)).map Value.string = strs (spl l) := by
    rw [← hB2, strs, List.map_map]
    exact List.map_congr_left fun x _ => rfl
  have hct : Lib.countB (str l) { data := #[32] } + 1 = (spl l).length := by
    rw [← hB2, List.length_map]
    exact (Lib.splitB_all { data := #[32] } (Nat.le_refl _) 0 _ (str l) rfl).symm
  refine (Tryd.strings_Split (str l) { data := #[32] } m w (by omega) hm (Nat.le_refl _)).mono ?_
  rintro e w' ⟨rfl, rfl⟩
  rw [hct, hpc]
  refine ⟨rfl, (Only.refl _ _).alloc _, ?_⟩
  have := World.ownsRow_lit (base := w.heap.size) (e := 9) (size := 1) w (strs (spl l)).toArray (spl l).length (Nat.le_refl _) (by simp only [maxLen]; omega) (by simp [strs])
  simpa using this

end Go.Proofs.YtelkimgcbkmdmaaDoor
