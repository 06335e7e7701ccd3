/-
  Chapter 19: the contract of the reference's Split: at each space.
-/
import Derived.Test.YtelkimgcbkmdmaaDoorOd
import Derived.Laws.DeepStrings4
namespace Go.Proofs.YtelkimgcbkmdmaaDoor
open Go.RowKit

/-- Parted at each space. -/
def spl : List UInt8 → List (List UInt8)
  | [] => [[]]
  | b :: l => if b = 32 then [] :: spl l else match spl l with
    | [] => [[b]]
    | h :: t => (b :: h) :: t
theorem spl_cons (b : UInt8) (l : List UInt8) : spl (b :: l) = if b = 32 then [] :: spl l else match spl l with
    | [] => [[b]]
    | h :: t => (b :: h) :: t := rfl
theorem spl_ne (l : List UInt8) : spl l ≠ [] := by
  cases l with
  | nil => simp [spl]
  | cons b l =>
    unfold spl
    split
    · simp
    · split <;> simp
theorem spl_one (p : List UInt8) (h : ∀ b ∈ p, b ≠ 32) : spl p = [p] := by
  induction p with
  | nil => rfl
  | cons b p ih =>
    have := ih (fun c hc => h c (by simp [hc]))
    rw [spl_cons, if_neg (h b (by simp)), this]
theorem spl_seg (p q : List UInt8) (h : ∀ b ∈ p, b ≠ 32) : spl (p ++ 32 :: q) = p :: spl q := by
  induction p with
  | nil => simp [spl]
  | cons b p ih =>
    have := ih (fun c hc => h c (by simp [hc]))
    rw [List.cons_append, spl_cons, if_neg (h b (by simp)), this]
def strs (l : List (List UInt8)) : List Value := l.map fun x => .string (str x)
theorem strs_len (l : List (List UInt8)) : (strs l).length = l.length := by simp [strs]
theorem strs_snoc (l : List (List UInt8)) (x : List UInt8) : strs (l ++ [x]) = strs l ++ [.string (str x)] := by simp [strs]
theorem str_extract (l : List UInt8) (f i : Nat) (_ : f ≤ i) (_ : i ≤ l.length) : (str l).extract f i = str ((l.drop f).take (i - f)) := by
  apply ByteArray.ext
  simp [str, ByteArray.data_extract]
theorem str_info : (Tryd.prog.info? 9).map (fun i => (i.zero, i.size, i.bytes)) = some (some (.string ⟨#[]⟩), 1, 16) := by kernel_rfl

set_option maxRecDepth 100000 in
set_option maxHeartbeats 1000000 in
theorem rsplit_any (l : List UInt8) (w : World) (hl : l.length ≤ 1000) : Calls Tryd.prog 16 #[.string (str l)] w fun e w' => ∃ v, e = .returned v ∧ Pure w w' ∧ w'.ownsRow w.heap.size 9 1 v (spl l).length (strs (spl l)) := by
  have hsz := str_size l
  obtain ⟨i0, hi0, hz0, hz1, hz2⟩ := info_parts str_info
  go_enter Tryd.func16, Tryd.ntmps16
  go_wp2_with fail
  go_loopw [3, 4, 5] (fun v f i wr => ∃ (k fr : Nat) (done : List (List UInt8)), k ≤ l.length + 1 ∧ fr ≤ k ∧ done.length ≤ k ∧ i = .int .i64 k ∧ f = .int .i64 fr ∧ Pure w wr ∧ wr.ownsRow w.heap.size 9 1 v done.length (strs done) ∧ (∀ b ∈ (l.drop fr).take (k - fr), b ≠ 32) ∧
    (if k = l.length + 1 then done = spl l else spl l = done ++ spl (l.drop fr))) (fun _ _ i _ => l.length + 1 - (intOf i).toNat)
  case atStart => exact ⟨0, 0, [], by omega, by omega, by simp, rfl, rfl, Only.refl _ _, World.ownsRow_nil _ _ _ _, by simp, by rw [if_neg (by omega)]; rfl⟩
  case round =>
    obtain ⟨k, fr, done, hk, hf, hdl, rfl, rfl, hp, hown, hno, hsp⟩ := hrel
    obtain ⟨A, c, rfl⟩ := own_form hown
    have HP := Lib.hid hp
    have OWN := Lib.hid hown
    have HNO := Lib.hid hno
    have HSP := Lib.hid hsp
    clear hp hown hno hsp
    by_cases hlt : k ≤ l.length
    · have hsp : spl l = done ++ spl (l.drop fr) := by have := HSP.out; rwa [if_neg (by omega)] at this
      have HSP2 := Lib.hid hsp
      clear hsp HSP
      by_cases hend : k = l.length
      · subst hend
        have hex := str_extract l fr l.length hf (Nat.le_refl _)
        obtain ⟨X, hX⟩ : ∃ X, (l.drop fr).take (l.length - fr) = X := ⟨_, rfl⟩
        rw [hX] at hex
        have hd : done ++ [X] = spl l := by
          have hno := HNO.out
          rw [hX] at hno
          rw [HSP2.out, ← spl_one X hno]
          congr 2
          rw [← hX, List.take_of_length_le (by simp)]
        have HDN := Lib.hid hd
        clear hX hd
        go_wp2_with (at_builtin; refine wpList_app _ rfl (.tmp 22) (.tmp 27) _ rfl w.heap.size 9 i0 _ 1 16 Tryd.underlying34 hi0 hz0 hz1 hz2 rfl (by omega) (.slice A done.length c) done.length _ rfl (World.ownsRow.alloc OWN.out _) _ 1 1 [.string (str X)] rfl (Src.row wr _ #[.string (str X)] 1 1 _ rfl rfl) (by simp [Value.oneCell']) (by simp only [maxLen]; omega) (by omega) (by have := HP.out.size; simp at this ⊢; omega) ?_; intro v2 w2 hown2 hg2 hat2; obtain ⟨A2, n2, rfl⟩ := own_form hown2; have HO2 : Hid (Pure w w2) := Lib.hid ((HP.out.alloc _).grown hg2 (fun q hq e => by have := (OWN.out.lt q e).1; omega)); have OWN2 := Lib.hid hown2; clear hown2 hg2 hat2; go_frame)
        go_roundw
        case rel => exact ⟨l.length + 1, l.length + 1, done ++ [X], by omega, by omega, by simp; omega, by go_num, by go_num, HO2.out, by rw [strs_snoc]; simpa using OWN2.out, by simp, by rw [if_pos rfl]; exact HDN.out⟩
        case measure => simp [intOf] <;> omega
      · have hk2 : k < l.length := by omega
        obtain ⟨b, hb⟩ : ∃ b, l[k]? = some b := ⟨_, List.getElem?_eq_getElem hk2⟩
        have hat := str_at l k b hb
        by_cases h32 : b = 32
        · have hex := str_extract l fr k hf (by omega)
          obtain ⟨X, hX⟩ : ∃ X, (l.drop fr).take (k - fr) = X := ⟨_, rfl⟩
          rw [hX] at hex
          have hd : done ++ [X] ++ spl (l.drop (k + 1)) = spl l := by
            have hno := HNO.out
            rw [hX] at hno
            have hsplit : l.drop fr = X ++ 32 :: l.drop (k + 1) := by
              rw [← hX]
              conv => lhs; rw [← List.take_append_drop (k - fr) (l.drop fr), List.drop_drop, show fr + (k - fr) = k from by omega]
              congr 1
              rw [List.drop_eq_getElem_cons hk2]
              rw [List.getElem?_eq_getElem hk2] at hb
              injection hb with hb
              rw [hb, h32]
            rw [HSP2.out, hsplit, spl_seg X _ hno]
            simp
          have HDN := Lib.hid hd
          have hb32 : b.toNat = 32 := by rw [h32]; rfl
          clear hX hd hb
          go_wp2_with (at_builtin; refine wpList_app _ rfl (.tmp 22) (.tmp 27) _ rfl w.heap.size 9 i0 _ 1 16 Tryd.underlying34 hi0 hz0 hz1 hz2 rfl (by omega) (.slice A done.length c) done.length _ rfl (World.ownsRow.alloc OWN.out _) _ 1 1 [.string (str X)] rfl (Src.row wr _ #[.string (str X)] 1 1 _ rfl rfl) (by simp [Value.oneCell']) (by simp only [maxLen]; omega) (by omega) (by have := HP.out.size; simp at this ⊢; omega) ?_; intro v2 w2 hown2 hg2 hat2; obtain ⟨A2, n2, rfl⟩ := own_form hown2; have HO2 : Hid (Pure w w2) := Lib.hid ((HP.out.alloc _).grown hg2 (fun q hq e => by have := (OWN.out.lt q e).1; omega)); have OWN2 := Lib.hid hown2; clear hown2 hg2 hat2; go_frame)
          go_roundw
          case rel => exact ⟨k + 1, k + 1, done ++ [X], by omega, by omega, by simp; omega, by go_num, by go_num, HO2.out, by rw [strs_snoc]; simpa using OWN2.out, by simp, by rw [if_neg (by omega)]; exact HDN.out.symm⟩
          case measure => simp [intOf]; omega
        · have hb32 : ¬ b.toNat = 32 := fun e => h32 (UInt8.toNat_inj.1 e)
          have hno2 : ∀ c ∈ (l.drop fr).take (k + 1 - fr), c ≠ 32 := by
            intro c hc
            rw [show k + 1 - fr = (k - fr) + 1 from by omega, List.take_add_one] at hc
            rcases List.mem_append.1 hc with hc | hc
            · exact HNO.out c hc
            · rw [List.getElem?_drop, show fr + (k - fr) = k from by omega, hb] at hc
              simp at hc
              rw [hc]; exact h32
          have HNO2 := Lib.hid hno2
          obtain ⟨bn, hbn⟩ : ∃ bn, b.toNat = bn := ⟨_, rfl⟩
          rw [hbn] at hb32
          have hbi : ((bn : Int) == 32) = false := by simp; omega
          clear hb hno2
          go_wp2_with fail
          go_roundw
          case rel => exact ⟨k + 1, fr, done, by omega, by omega, by omega, by go_num, rfl, HP.out, OWN.out, HNO2.out, by rw [if_neg (by omega)]; exact HSP2.out⟩
          case measure => simp [intOf]; omega
    · obtain rfl : k = l.length + 1 := by omega
      have hsp : done = spl l := by have := HSP.out; rwa [if_pos rfl] at this
      have HD := Lib.hid hsp
      clear hsp HSP
      go_wp2_with fail
      go_ret
      exact ⟨_, rfl, HP.out, by rw [← HD.out]; exact OWN.out⟩

end Go.Proofs.YtelkimgcbkmdmaaDoor
