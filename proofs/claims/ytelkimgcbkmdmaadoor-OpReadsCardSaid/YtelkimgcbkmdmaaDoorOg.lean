/-
  Chapter 19: an operation in words; the contract of the reference's Print.
-/
import Derived.Test.YtelkimgcbkmdmaaDoorOf
import Derived.Lib.Join
namespace Go.Proofs.YtelkimgcbkmdmaaDoor
open Go.RowKit

structure O19 where
  kind : Nat
  a : Int
  b : Int
  c : Int
  n : Int
  x : Nat
  y : Nat
abbrev opV (o : O19) : Value := .agg #[.int .i64 (o.kind : Int), .int .i64 o.a, .int .i64 o.b, .int .i64 o.c, .int .i64 o.n, .complex .f64 o.x o.y]
abbrev opC (o : O19) : Array Value := #[.int .i64 (o.kind : Int), .int .i64 o.a, .int .i64 o.b, .int .i64 o.c, .int .i64 o.n, .complex .f64 o.x o.y]
/-- The numbers are numbers of the program's. -/
structure O19.Ok (o : O19) : Prop where
  k : o.kind < 19
  a : -9223372036854775808 ≤ o.a ∧ o.a ≤ 9223372036854775807
  b : -9223372036854775808 ≤ o.b ∧ o.b ≤ 9223372036854775807
  c : -9223372036854775808 ≤ o.c ∧ o.c ≤ 9223372036854775807
  n : -9223372036854775808 ≤ o.n ∧ o.n ≤ 9223372036854775807
  x : o.x < 18446744073709551616
  y : o.y < 18446744073709551616
/-- The number that a sign names. -/
def fl (c : UInt8) (o : O19) : Int := if c = 97 ∨ c = 65 then o.a else if c = 98 ∨ c = 107 ∨ c = 66 then o.b else if c = 99 ∨ c = 67 then o.c else o.n
def tk (o : O19) (c : UInt8) : List (List UInt8) := if c = 122 then [hexL (partB o.x), hexL (partB o.y)] else [Lib.itoa (fl c o)]
def toks (o : O19) (l : List UInt8) : List (List UInt8) := l.flatMap (tk o)
def behind (l : List (List UInt8)) : List UInt8 := l.flatMap fun x => 32 :: x
/-- An operation in words. -/
def printL (o : O19) : List UInt8 := kw o.kind ++ behind (toks o (kn o.kind))
theorem toks_rn (o : O19) (h : o.kind < 19) : toks o (rn o.kind) = toks o (kn o.kind) := by
  obtain ⟨k, a, b, c, n, x, y⟩ := o
  dsimp only at h ⊢
  rcases (by omega : k = 0 ∨ k = 1 ∨ k = 2 ∨ k = 3 ∨ k = 4 ∨ k = 5 ∨ k = 6 ∨ k = 7 ∨ k = 8 ∨ k = 9 ∨ k = 10 ∨ k = 11 ∨ k = 12 ∨ k = 13 ∨ k = 14 ∨ k = 15 ∨ k = 16 ∨ k = 17 ∨ k = 18) with rfl | rfl | rfl | rfl | rfl | rfl | rfl | rfl | rfl | rfl | rfl | rfl | rfl | rfl | rfl | rfl | rfl | rfl | rfl <;> rfl
theorem printL_join (o : O19) : printL o = Lib.join (kw o.kind :: toks o (kn o.kind)) [32] := by
  unfold printL
  generalize kw o.kind = w
  generalize toks o (kn o.kind) = l
  induction l generalizing w with
  | nil => simp [behind, Lib.join]
  | cons t l ih =>
    have h := ih t
    simp only [behind, List.flatMap_cons, Lib.join] at h ⊢
    rw [List.intercalate_cons_cons, ← h]
    simp

theorem decDigits_short (k : Nat) : ∀ n, n < 10 ^ (k + 1) → (Lib.decDigits n).length ≤ k + 1 := by
  induction k with
  | zero => intro n h; rw [Lib.decDigits, dif_pos (by omega)]; simp
  | succ k ih =>
    intro n h
    rw [Lib.decDigits]
    split
    · simp
    · have := ih (n / 10) (by rw [Nat.pow_succ] at h; omega)
      rw [List.length_append, List.length_singleton]
      omega
theorem itoa_short (x : Int) (h0 : -9223372036854775808 ≤ x) (h1 : x ≤ 9223372036854775807) : (Lib.itoa x).length ≤ 20 := by
  unfold Lib.itoa
  split
  · have := decDigits_short 18 x.natAbs (by omega)
    simp; omega
  · have := decDigits_short 18 x.toNat (by omega)
    omega
theorem hexL_len (u : Nat) : (hexL u).length = 16 := by simp [hexL]
theorem partB_lt (b : Nat) (h : b < 18446744073709551616) : partB b < 18446744073709551616 := by unfold partB; split <;> omega

/-- The signs of the reference. -/
def RSig (c : UInt8) : Prop := c = 65 ∨ c = 66 ∨ c = 107 ∨ c = 67 ∨ c = 78 ∨ c = 122
theorem rn_sig (k : Nat) (h : k < 19) : ∀ c ∈ rn k, RSig c := by
  rcases (by omega : k = 0 ∨ k = 1 ∨ k = 2 ∨ k = 3 ∨ k = 4 ∨ k = 5 ∨ k = 6 ∨ k = 7 ∨ k = 8 ∨ k = 9 ∨ k = 10 ∨ k = 11 ∨ k = 12 ∨ k = 13 ∨ k = 14 ∨ k = 15 ∨ k = 16 ∨ k = 17 ∨ k = 18) with rfl | rfl | rfl | rfl | rfl | rfl | rfl | rfl | rfl | rfl | rfl | rfl | rfl | rfl | rfl | rfl | rfl | rfl | rfl <;> simp [rn, rnL, RSig]
theorem rn_len (k : Nat) (h : k < 19) : (rn k).length ≤ 3 ∧ (kw k).length ≤ 7 := by
  rcases (by omega : k = 0 ∨ k = 1 ∨ k = 2 ∨ k = 3 ∨ k = 4 ∨ k = 5 ∨ k = 6 ∨ k = 7 ∨ k = 8 ∨ k = 9 ∨ k = 10 ∨ k = 11 ∨ k = 12 ∨ k = 13 ∨ k = 14 ∨ k = 15 ∨ k = 16 ∨ k = 17 ∨ k = 18) with rfl | rfl | rfl | rfl | rfl | rfl | rfl | rfl | rfl | rfl | rfl | rfl | rfl | rfl | rfl | rfl | rfl | rfl | rfl <;> simp [rn, rnL, kw, kwL]
theorem toks_snoc (o : O19) (l : List UInt8) (k : Nat) (c : UInt8) (h : l[k]? = some c) : behind (toks o (l.take (k + 1))) = behind (toks o (l.take k)) ++ behind (tk o c) := by
  simp [toks, behind, List.take_add_one, h]
theorem op6 {w : World} {X : Nat} {o : O19} (h : w.heap[X]? = some (.cells (opC o) 25 (0, 0))) :
    w.cell? ⟨X, 0, none⟩ = some (.int .i64 (o.kind : Int)) ∧ w.cell? ⟨X, 1, none⟩ = some (.int .i64 o.a) ∧ w.cell? ⟨X, 2, none⟩ = some (.int .i64 o.b) ∧ w.cell? ⟨X, 3, none⟩ = some (.int .i64 o.c) ∧ w.cell? ⟨X, 4, none⟩ = some (.int .i64 o.n) ∧ w.cell? ⟨X, 5, none⟩ = some (.complex .f64 o.x o.y) := by
  refine ⟨?_, ?_, ?_, ?_, ?_, ?_⟩ <;> (rw [cell_of_row w X _ _ _ _ h]; rfl)
theorem Pure.blk {w w' : World} {b : Nat} {o : Obj} (h : Pure w w') (hb : w.heap[b]? = some o) : w'.heap[b]? = some o := (h.block b (Array.getElem?_eq_some_iff.1 hb).1 (fun f => f)).trans hb

set_option maxRecDepth 100000 in
set_option maxHeartbeats 2000000 in
theorem rprint_any (o : O19) (w : World) (ho : o.Ok) (h0 : 0 < o.kind) : Calls Tryd.prog 19 #[opV o] w fun e w' => e = .returned (.string (str (printL o))) ∧ Pure w w' := by
  have hb := heap_alloc_new w (.cells (opC o) 25)
  have hpr : printL o = kw o.kind ++ behind (toks o (rn o.kind)) := by rw [printL, toks_rn o ho.k]
  have hsig := rn_sig o.kind ho.k
  obtain ⟨hl1, hl2⟩ := rn_len o.kind ho.k
  have HB := Lib.hid hb
  have HO := Lib.hid ho
  have HPR := Lib.hid hpr
  have HSIG := Lib.hid hsig
  obtain ⟨c0, c1, c2, c3, c4, c5⟩ := op6 hb
  have P1 := Lib.hid ((Only.refl (fun _ => False) w).alloc (.cells (opC o) 25))
  clear hb ho hpr hsig
  go_enter Tryd.func19, Tryd.ntmps19
  go_wp2_with fail
  refine (word_l o.kind h0 HO.out.k _).mono ?_
  rintro e w2 ⟨rfl, rfl⟩
  clear c0
  obtain ⟨W, hW⟩ : ∃ W, W = w.alloc (.cells (opC o) 25) := ⟨_, rfl⟩
  have hWx : w.alloc (.cells #[.int .i64 (o.kind : Int), .int .i64 o.a, .int .i64 o.b, .int .i64 o.c, .int .i64 o.n, .complex .f64 o.x o.y] 25) = W := hW.symm
  rw [hWx]
  rw [← hW] at c1 c2 c3 c4 c5 P1
  have hrs := str_size (rn o.kind)
  clear hW hWx
  go_wp2_with fail
  go_loopw [3, 5] (fun v i wr => ∃ (j : Nat) (acc : List UInt8), j ≤ (rn o.kind).length ∧ i = .int .i64 j ∧ v = .string (str acc) ∧ acc = kw o.kind ++ behind (toks o ((rn o.kind).take j)) ∧ acc.length ≤ 7 + 34 * j ∧ Pure W wr) (fun _ i _ => (rn o.kind).length - (intOf i).toNat)
  case atStart => exact ⟨0, kw o.kind, Nat.zero_le _, rfl, rfl, by simp [toks, behind], by omega, Only.refl _ _⟩
  case round =>
    obtain ⟨j, acc, hj, rfl, rfl, hacc, hal, hp⟩ := hrel
    have HP := Lib.hid hp
    have HA := Lib.hid hacc
    have d1 := hp.keep c1
    have d2 := hp.keep c2
    have d3 := hp.keep c3
    have d4 := hp.keep c4
    have d5 := hp.keep c5
    clear hp hacc
    by_cases hlt : j < (rn o.kind).length
    · obtain ⟨c, hb⟩ : ∃ c, (rn o.kind)[j]? = some c := ⟨_, List.getElem?_eq_getElem hlt⟩
      have hat := str_at (rn o.kind) j c hb
      have hsn := toks_snoc o (rn o.kind) j c hb
      rcases HSIG.out c (List.mem_of_getElem? hb) with rfl | rfl | rfl | rfl | rfl | rfl
      · have htk : behind (tk o 65) = 32 :: Lib.itoa o.a := by simp [behind, tk, fl]
        have hlen := itoa_short o.a HO.out.a.1 HO.out.a.2
        rw [htk] at hsn
        have HS := Lib.hid hsn
        have hs1 : (str (Lib.itoa o.a)).size ≤ 20 := by rw [str_size]; exact hlen
        have hs2 : ByteArray.size { data := #[32] } = 1 := rfl
        have hs3 : ¬ 9223372036854775807 < 1 + (str (Lib.itoa o.a)).size := by omega
        have hs4 : ¬ 9223372036854775807 < (str acc).size + (1 + (str (Lib.itoa o.a)).size) := by rw [str_size acc]; omega
        have hs5 : (({ data := #[32] } : ByteArray) ++ str (Lib.itoa o.a)).size = 1 + (str (Lib.itoa o.a)).size := by rw [ByteArray.size_append, hs2]
        clear hb hsn htk
        go_wp2_with fail
        refine (dec_any o.a _ HO.out.a.1 HO.out.a.2).mono ?_
        rintro e w3 ⟨rfl, hp3⟩
        have P3 := Lib.hid (HP.out.then hp3)
        clear hp3
        go_wp2_with fail
        go_roundw
        case rel => exact ⟨j + 1, acc ++ 32 :: Lib.itoa o.a, by omega, by go_num, by simp only [← str_append]; rfl, by rw [HS.out, HA.out]; simp, by simp; omega, P3.out⟩
        case measure => simp [intOf]; omega
      · have htk : behind (tk o 66) = 32 :: Lib.itoa o.b := by simp [behind, tk, fl]
        have hlen := itoa_short o.b HO.out.b.1 HO.out.b.2
        rw [htk] at hsn
        have HS := Lib.hid hsn
        have hs1 : (str (Lib.itoa o.b)).size ≤ 20 := by rw [str_size]; exact hlen
        have hs2 : ByteArray.size { data := #[32] } = 1 := rfl
        have hs3 : ¬ 9223372036854775807 < 1 + (str (Lib.itoa o.b)).size := by omega
        have hs4 : ¬ 9223372036854775807 < (str acc).size + (1 + (str (Lib.itoa o.b)).size) := by rw [str_size acc]; omega
        have hs5 : (({ data := #[32] } : ByteArray) ++ str (Lib.itoa o.b)).size = 1 + (str (Lib.itoa o.b)).size := by rw [ByteArray.size_append, hs2]
        clear hb hsn htk
        go_wp2_with fail
        refine (dec_any o.b _ HO.out.b.1 HO.out.b.2).mono ?_
        rintro e w3 ⟨rfl, hp3⟩
        have P3 := Lib.hid (HP.out.then hp3)
        clear hp3
        go_wp2_with fail
        go_roundw
        case rel => exact ⟨j + 1, acc ++ 32 :: Lib.itoa o.b, by omega, by go_num, by simp only [← str_append]; rfl, by rw [HS.out, HA.out]; simp, by simp; omega, P3.out⟩
        case measure => simp [intOf]; omega
      · have htk : behind (tk o 107) = 32 :: Lib.itoa o.b := by simp [behind, tk, fl]
        have hlen := itoa_short o.b HO.out.b.1 HO.out.b.2
        rw [htk] at hsn
        have HS := Lib.hid hsn
        have hs1 : (str (Lib.itoa o.b)).size ≤ 20 := by rw [str_size]; exact hlen
        have hs2 : ByteArray.size { data := #[32] } = 1 := rfl
        have hs3 : ¬ 9223372036854775807 < 1 + (str (Lib.itoa o.b)).size := by omega
        have hs4 : ¬ 9223372036854775807 < (str acc).size + (1 + (str (Lib.itoa o.b)).size) := by rw [str_size acc]; omega
        have hs5 : (({ data := #[32] } : ByteArray) ++ str (Lib.itoa o.b)).size = 1 + (str (Lib.itoa o.b)).size := by rw [ByteArray.size_append, hs2]
        clear hb hsn htk
        go_wp2_with fail
        refine (dec_any o.b _ HO.out.b.1 HO.out.b.2).mono ?_
        rintro e w3 ⟨rfl, hp3⟩
        have P3 := Lib.hid (HP.out.then hp3)
        clear hp3
        go_wp2_with fail
        go_roundw
        case rel => exact ⟨j + 1, acc ++ 32 :: Lib.itoa o.b, by omega, by go_num, by simp only [← str_append]; rfl, by rw [HS.out, HA.out]; simp, by simp; omega, P3.out⟩
        case measure => simp [intOf]; omega
      · have htk : behind (tk o 67) = 32 :: Lib.itoa o.c := by simp [behind, tk, fl]
        have hlen := itoa_short o.c HO.out.c.1 HO.out.c.2
        rw [htk] at hsn
        have HS := Lib.hid hsn
        have hs1 : (str (Lib.itoa o.c)).size ≤ 20 := by rw [str_size]; exact hlen
        have hs2 : ByteArray.size { data := #[32] } = 1 := rfl
        have hs3 : ¬ 9223372036854775807 < 1 + (str (Lib.itoa o.c)).size := by omega
        have hs4 : ¬ 9223372036854775807 < (str acc).size + (1 + (str (Lib.itoa o.c)).size) := by rw [str_size acc]; omega
        have hs5 : (({ data := #[32] } : ByteArray) ++ str (Lib.itoa o.c)).size = 1 + (str (Lib.itoa o.c)).size := by rw [ByteArray.size_append, hs2]
        clear hb hsn htk
        go_wp2_with fail
        refine (dec_any o.c _ HO.out.c.1 HO.out.c.2).mono ?_
        rintro e w3 ⟨rfl, hp3⟩
        have P3 := Lib.hid (HP.out.then hp3)
        clear hp3
        go_wp2_with fail
        go_roundw
        case rel => exact ⟨j + 1, acc ++ 32 :: Lib.itoa o.c, by omega, by go_num, by simp only [← str_append]; rfl, by rw [HS.out, HA.out]; simp, by simp; omega, P3.out⟩
        case measure => simp [intOf]; omega
      · have htk : behind (tk o 78) = 32 :: Lib.itoa o.n := by simp [behind, tk, fl]
        have hlen := itoa_short o.n HO.out.n.1 HO.out.n.2
        rw [htk] at hsn
        have HS := Lib.hid hsn
        have hs1 : (str (Lib.itoa o.n)).size ≤ 20 := by rw [str_size]; exact hlen
        have hs2 : ByteArray.size { data := #[32] } = 1 := rfl
        have hs3 : ¬ 9223372036854775807 < 1 + (str (Lib.itoa o.n)).size := by omega
        have hs4 : ¬ 9223372036854775807 < (str acc).size + (1 + (str (Lib.itoa o.n)).size) := by rw [str_size acc]; omega
        have hs5 : (({ data := #[32] } : ByteArray) ++ str (Lib.itoa o.n)).size = 1 + (str (Lib.itoa o.n)).size := by rw [ByteArray.size_append, hs2]
        clear hb hsn htk
        go_wp2_with fail
        refine (dec_any o.n _ HO.out.n.1 HO.out.n.2).mono ?_
        rintro e w3 ⟨rfl, hp3⟩
        have P3 := Lib.hid (HP.out.then hp3)
        clear hp3
        go_wp2_with fail
        go_roundw
        case rel => exact ⟨j + 1, acc ++ 32 :: Lib.itoa o.n, by omega, by go_num, by simp only [← str_append]; rfl, by rw [HS.out, HA.out]; simp, by simp; omega, P3.out⟩
        case measure => simp [intOf]; omega
      · have htk : behind (tk o 122) = 32 :: hexL (partB o.x) ++ 32 :: hexL (partB o.y) := by simp [behind, tk]
        rw [htk] at hsn
        have HS := Lib.hid hsn
        obtain ⟨X, hX⟩ : ∃ X, hexL (partB o.x) = X := ⟨_, rfl⟩
        obtain ⟨Y, hY⟩ : ∃ Y, hexL (partB o.y) = Y := ⟨_, rfl⟩
        have hs1 : (str X).size = 16 := by rw [str_size, ← hX, hexL_len]
        have hs6 : (str Y).size = 16 := by rw [str_size, ← hY, hexL_len]
        have hXl : X.length = 16 := by rw [← hX, hexL_len]
        have hYl : Y.length = 16 := by rw [← hY, hexL_len]
        have hs2 : ByteArray.size { data := #[32] } = 1 := rfl
        have hs4 : ¬ 9223372036854775807 < (str acc).size + 34 := by rw [str_size acc]; omega
        have HX := Lib.hid hX
        have HY := Lib.hid hY
        clear hb hsn htk hX hY
        go_wp2_with fail
        refine (rbits_any o.x o.y _ HO.out.x HO.out.y).mono ?_
        rintro e w3 ⟨rfl, rfl⟩
        go_wp2_with fail
        refine (hex_out (partB o.x) _ (partB_lt _ HO.out.x)).mono ?_
        rw [HX.out]
        rintro e w3 ⟨rfl, hp3⟩
        have P3 := Lib.hid (HP.out.then hp3)
        clear hp3
        go_wp2_with fail
        refine (hex_out (partB o.y) _ (partB_lt _ HO.out.y)).mono ?_
        rw [HY.out]
        rintro e w4 ⟨rfl, hp4⟩
        have P4 := Lib.hid (P3.out.then hp4)
        clear hp4
        go_wp2_with fail
        go_roundw
        case rel => exact ⟨j + 1, acc ++ (32 :: X ++ 32 :: Y), by omega, by go_num, by rw [show 32 :: X ++ 32 :: Y = [32] ++ X ++ [32] ++ Y from by simp]; simp only [← str_append]; rfl, by rw [HS.out, HA.out, HX.out, HY.out]; simp, by simp; omega, P4.out⟩
        case measure => simp [intOf]; omega
    · obtain rfl : j = (rn o.kind).length := by omega
      have hfin := HA.out
      rw [List.take_length] at hfin
      have HF := Lib.hid hfin
      clear hfin
      go_wp2_with fail
      go_ret
      exact ⟨by rw [HPR.out, ← HF.out]; rfl, Pure.then P1.out HP.out⟩

end Go.Proofs.YtelkimgcbkmdmaaDoor
