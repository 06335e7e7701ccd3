/-
  Chapter 19: FormatUint at base 16; op.hex.
-/
import Derived.Test.YtelkimgcbkmdmaaDoorOi
import Derived.Test.YtelkimgcbkmdmaaDoorShelf
namespace Go.Proofs.YtelkimgcbkmdmaaDoor
open Go.RowKit

/-- What the library's variables hold. -/
structure Env (w : World) : Prop where
  c3 : ∃ m : Int, w.cell? ⟨3, 0, none⟩ = some (.int .i64 m)
  tab : Lib.TabIs Tryd.prog w "internal/strconv.uint64pow10" .u64 Lib.pow10Tab
  syn : ∃ tp p, w.var? Tryd.prog "strconv.ErrSyntax" = some #[.iface tp p]
  rng : ∃ tp p, w.var? Tryd.prog "strconv.ErrRange" = some #[.iface tp p]
  bit : w.cell? ⟨8, 15, none⟩ = some (.int .u8 4)
theorem var_pure {w w' : World} (h : Pure w w') {n : String} {cs : Array Value} (hv : w.var? Tryd.prog n = some cs) : w'.var? Tryd.prog n = some cs := by
  unfold World.var? at hv ⊢
  cases hg : Tryd.prog.globalNamed n with
  | none => rw [hg] at hv; cases hv
  | some g =>
    rw [hg] at hv
    simp only [Option.bind_some] at hv ⊢
    cases hb : w.heap[g]? with
    | none => rw [hb] at hv; cases hv
    | some o => rw [h.blk hb]; rw [hb] at hv; exact hv
theorem Env.pure {w w' : World} (h : Env w) (k : Pure w w') : Env w' := by
  obtain ⟨m, hm⟩ := h.c3
  obtain ⟨t1, p1, h1⟩ := h.syn
  obtain ⟨t2, p2, h2⟩ := h.rng
  exact ⟨⟨m, k.keep hm⟩, var_pure k h.tab, ⟨t1, p1, var_pure k h1⟩, ⟨t2, p2, var_pure k h2⟩, k.keep h.bit⟩

/-- The digits that a number has. -/
def hxL (u : Nat) : List UInt8 := if _h : u < 16 then [hd u] else hxL (u / 16) ++ [hd (u % 16)]
termination_by u
decreasing_by omega
theorem hxL_big (u : Nat) (h : ¬ u < 16) : hxL u = hxL (u / 16) ++ [hd (u % 16)] := by rw [hxL, dif_neg h]
theorem hxL_small (u : Nat) (h : u < 16) : hxL u = [hd u] := by rw [hxL, dif_pos h]

theorem hd36 (d : Nat) (h : d < 16) (h' : d < ByteArray.size { data := #[48, 49, 50, 51, 52, 53, 54, 55, 56, 57, 97, 98, 99, 100, 101, 102, 103, 104, 105, 106, 107, 108, 109, 110, 111, 112, 113, 114, 115, 116, 117, 118, 119, 120, 121, 122] }) : ({ data := #[48, 49, 50, 51, 52, 53, 54, 55, 56, 57, 97, 98, 99, 100, 101, 102, 103, 104, 105, 106, 107, 108, 109, 110, 111, 112, 113, 114, 115, 116, 117, 118, 119, 120, 121, 122] } : ByteArray)[d] = hd d := by
  rcases (by omega : d = 0 ∨ d = 1 ∨ d = 2 ∨ d = 3 ∨ d = 4 ∨ d = 5 ∨ d = 6 ∨ d = 7 ∨ d = 8 ∨ d = 9 ∨ d = 10 ∨ d = 11 ∨ d = 12 ∨ d = 13 ∨ d = 14 ∨ d = 15) with rfl | rfl | rfl | rfl | rfl | rfl | rfl | rfl | rfl | rfl | rfl | rfl | rfl | rfl | rfl | rfl <;> rfl

set_option maxRecDepth 100000 in
theorem zeros16 (w : World) (h : Env w) : Calls Tryd.prog 86 #[.int .u64 16] w fun e w' => e = .returned (.int .i64 4) ∧ w = w' := by
  have hb := h.bit
  have h1 : IntKind.u64.wrap (-16) = 18446744073709551600 := by decide
  have h2 : bits .and .u64 16 18446744073709551600 = 16 := by decide
  have h3 : IntKind.u64.wrap 4573923408821661840 = 4573923408821661840 := by decide
  clear h
  go_enter Tryd.func86, Tryd.ntmps86
  go_wp2_with fail
  go_ret
  exact ⟨rfl, rfl⟩

/-- The digits laid so far, from the right of a block of 65. -/
def FmtR (wr : World) (B : Nat) (done : List UInt8) : Prop := ∃ arr : List Value, arr.length = 65 ∧ done.length ≤ 65 ∧ wr.heap[B]? = some (.cells arr.toArray 115 (0, 0)) ∧ arr.drop (65 - done.length) = done.map fun b => Value.int .u8 (b.toNat : Int)
theorem FmtR.put {wr : World} {B : Nat} {done : List UInt8} {i : Nat} (d : UInt8) (h : FmtR wr B done) (hi : i + 1 + done.length = 65) : FmtR (wr.setCell ⟨B, i, none⟩ (.int .u8 (d.toNat : Int))) B (d :: done) := by
  obtain ⟨arr, h1, h2, h3, h4⟩ := h
  refine ⟨arr.set i (.int .u8 (d.toNat : Int)), by simpa using h1, by simp; omega, by simp [World.setCell, Array.getElem?_modify, h3], ?_⟩
  rw [List.length_cons, show 65 - (done.length + 1) = i from by omega, List.map_cons, ← h4, show 65 - done.length = i + 1 from by omega]
  have hi' : i < (arr.set i (.int .u8 (d.toNat : Int))).length := by simp; omega
  rw [List.drop_eq_getElem_cons hi', List.getElem_set_self]
  congr 1
  rw [List.drop_set, if_pos (by omega)]
theorem FmtR.at {wr : World} {B : Nat} {done : List UInt8} {i : Nat} (h : FmtR wr B done) (hi : i < 65) : (∃ v, wr.cell? ⟨B, i, none⟩ = some v) ∧ wr.frozen? ⟨B, i, none⟩ = false := by
  obtain ⟨arr, h1, h2, h3, h4⟩ := h
  refine ⟨?_, frozen_of_row _ _ _ _ _ h3⟩
  rw [cell_of_row _ _ _ _ _ _ h3, List.getElem?_toArray, List.getElem?_eq_getElem (by omega)]
  exact ⟨_, rfl⟩
theorem FmtR.str {wr : World} {B : Nat} {done : List UInt8} (h : FmtR wr B done) (cap : Nat) : (convert 69 9 (.slice (some ⟨B, 65 - done.length, none⟩) done.length cap)).run Tryd.prog wr = .ok (.string (str done)) wr := by
  obtain ⟨arr, h1, h2, h3, h4⟩ := h
  refine run_convert_bytes_back wr 69 9 5 ⟨B, 65 - done.length, none⟩ cap done Tryd.underlying69 Tryd.underlying5 Tryd.underlying9 (fun j hj => ?_)
  rw [show (⟨B, 65 - done.length, none⟩ : Addr).add j = ⟨B, 65 - done.length + j, none⟩ from by unfold Addr.add; split <;> simp_all, cell_of_row _ _ _ _ _ _ h3, List.getElem?_toArray]
  have := congrArg (fun l => l[j]?) h4
  simp only [List.getElem?_drop, List.getElem?_map, List.getElem?_eq_getElem hj, Option.map_some] at this
  exact this

theorem zero65 : Tryd.zeroCells115 = (List.replicate 65 (Value.int .u8 0)).toArray := by kernel_rfl
theorem FmtR.start (w : World) : FmtR (w.alloc (.cells Tryd.zeroCells115 115)) w.heap.size [] := by
  rw [zero65]
  exact ⟨List.replicate 65 (.int .u8 0), by simp, by simp, heap_alloc_new w _, by simp⟩
theorem pow16 (w : World) : Calls Tryd.prog 81 #[.int .i64 16] w fun e w' => e = .returned (.bool true) ∧ w = w' := by
  have h2 : bits .and .i64 16 15 = 0 := by decide
  go_enter Tryd.func81, Tryd.ntmps81
  go_wp2_with fail
  go_ret
  exact ⟨rfl, rfl⟩
set_option maxRecDepth 100000 in
theorem zerosU (w : World) (h : Env w) : Calls Tryd.prog 82 #[.int .u64 16] w fun e w' => e = .returned (.int .i64 4) ∧ w = w' := by
  go_enter Tryd.func82, Tryd.ntmps82
  go_wp2_with fail
  refine (zeros16 w h).mono ?_
  rintro e w1 ⟨rfl, rfl⟩
  go_wp2_with fail
  go_ret
  exact ⟨rfl, rfl⟩

set_option maxRecDepth 100000 in
theorem slice65 (B n : Nat) (hn : n ≤ 64) (W : World) : (Instr.sliceAt 115 (.pointer (some ⟨B, 0, none⟩)) (some (.int .i64 ((64 - n : Nat) : Int))) none none).run Tryd.prog W = .ok (.slice (some ⟨B, 64 - n, none⟩) (n + 1) (n + 1)) W := by
  have hl : Tryd.prog.arrayLen 115 = 65 := by kernel_rfl
  have hs : ∀ W, (sizeOf (Tryd.prog.elem 115)).run Tryd.prog W = .ok 1 W := fun W => by kernel_rfl
  rw [run_sliceAt_array_l W 115 ⟨B, 0, none⟩ (by kernel_rfl) .i64 _ (by omega) (by rw [hl]; omega), hs]
  simp only [Result.andThen, slicedAt, hl, Int.toNat_natCast]
  rw [if_neg (by omega)]
  congr 2
  · congr 1
    unfold Addr.add
    split <;> simp_all
  · omega
  · omega

set_option maxRecDepth 100000 in
set_option maxHeartbeats 2000000 in
theorem bits16 (u0 : Nat) (w : World) (hu : u0 < 18446744073709551616) (h : Env w) :
    Calls Tryd.prog 67 #[.slice none 0 0, .int .u64 u0, .int .i64 16, .bool false, .bool false] w fun e w' => e = .returned (.tuple #[.slice none 0 0, .string (str (hxL u0))]) ∧ Pure w w' := by
  have hp := (Only.refl (fun _ => False) w).alloc (.cells Tryd.zeroCells115 115)
  have F0 := Lib.hid (FmtR.start w)
  have HE := Lib.hid (h.pure hp)
  have P0 := Lib.hid hp
  clear hp h
  go_enter Tryd.func67, Tryd.ntmps67
  go_wp2_with fail
  generalize w.alloc (.cells Tryd.zeroCells115 115) = w1 at *
  refine (pow16 _).mono ?_
  rintro e w2 ⟨rfl, rfl⟩
  go_wp2_with fail
  refine (zerosU _ HE.out).mono ?_
  rintro e w2 ⟨rfl, rfl⟩
  go_wp2_with fail
  go_loopw [1, 13] (fun v i wr => ∃ (u : Nat) (done : List UInt8), done.length ≤ 15 ∧ u < 2 ^ (64 - 4 * done.length) ∧ v = .int .u64 u ∧ i = .int .i64 (65 - (done.length : Int)) ∧ hxL u0 = hxL u ++ done ∧ FmtR wr w.heap.size done ∧ Pure w wr) (fun v _ _ => (intOf v).toNat)
  case atStart => exact ⟨u0, [], by simp, by simpa using hu, rfl, rfl, by simp, F0.out, P0.out⟩
  case round =>
    obtain ⟨u, done, hdl, hul, rfl, rfl, hx, hf, hp⟩ := hrel
    have HX := Lib.hid hx
    have F := Lib.hid hf
    have HP := Lib.hid hp
    have hu64 : u < 18446744073709551616 := Nat.lt_of_lt_of_le hul (Nat.pow_le_pow_right (n := 2) (by decide) (Nat.sub_le 64 _))
    have ha := and15 u hu64
    obtain ⟨d, hd0⟩ : ∃ d, u % 16 = d := ⟨_, rfl⟩
    rw [hd0] at ha
    have hdl16 : d < 16 := by omega
    obtain ⟨n, hn⟩ : ∃ n, done.length = n := ⟨_, rfl⟩
    rw [hn] at hdl hul
    have HN := Lib.hid hn
    rw [hn]
    have HUL := Lib.hid hul
    have HD0 := Lib.hid hd0
    obtain ⟨⟨q0, q1⟩, q2⟩ := hf.at (i := 64 - n) (by omega)
    have hi1 : IntKind.i64.wrap (65 - (n : Int) - 1) = 64 - (n : Int) := by rw [IntWalk.i64_in _ (by omega)]; omega
    have hi2 : (65 - (n : Int) - 1) = ((64 - n : Nat) : Int) := by omega
    have HHD := Lib.hid (hd36 d hdl16)
    clear hx hf hp hul hd0 hn
    by_cases hbig : u < 16
    · have HH2 := Lib.hid (hd36 u hbig)
      have hn64 : n ≤ 64 := by omega
      have hfin := hxL_small u hbig
      have HFIN := Lib.hid hfin
      have F2 := Lib.hid (F.out.put (hd u) (i := 64 - n) (by have := HN.out; omega))
      have hs := Lib.hid (F2.out.str (n + 1))
      have P2 := Lib.hid (HP.out.setCell (p := ⟨w.heap.size, 64 - n, none⟩) (fun h => absurd h (Nat.lt_irrefl _)) (.int .u8 ((hd u).toNat : Int)))
      have hc : (convert 69 9 (.slice (some ⟨w.heap.size, 64 - n, none⟩) (n + 1) (n + 1))).run Tryd.prog (wr.setCell ⟨w.heap.size, 64 - n, none⟩ (.int .u8 ((hd u).toNat : Int))) = .ok (.string (str (hd u :: done))) (wr.setCell ⟨w.heap.size, 64 - n, none⟩ (.int .u8 ((hd u).toNat : Int))) := by
        have := hs.out
        rw [List.length_cons, HN.out, show 65 - (n + 1) = 64 - n from by omega] at this
        exact this
      have hh := HH2.out
      have hsl := slice65 w.heap.size n hn64
      clear hfin ha hdl16 hs
      go_wp2_with fail
      refine bodyPost_ret (v := .tuple #[.slice none 0 0, .string (str (hd u :: done))]) (by simp [results, Tryd.results67, go_sem]) rfl ⟨?_, P2.out⟩
      rw [HX.out, HFIN.out]
      rfl
    · have hn14 : n ≤ 14 := by
        rcases Nat.lt_or_ge n 15 with h | h
        · omega
        · obtain rfl : n = 15 := by omega
          have := HUL.out
          omega
      go_wp2_with fail
      go_roundw
      case rel =>
        rw [HHD.out]
        refine ⟨u / 16, hd d :: done, by rw [List.length_cons, HN.out]; omega, ?_, by simp, by rw [List.length_cons, HN.out]; congr 1; omega, ?_, F.out.put (hd d) (by have := HN.out; omega), HP.out.setCell (p := ⟨w.heap.size, 64 - n, none⟩) (fun h => absurd h (Nat.lt_irrefl _)) _⟩
        · rw [List.length_cons, HN.out]
          have := HUL.out
          rw [show 64 - 4 * n = (64 - 4 * (n + 1)) + 4 from by omega, Nat.pow_add] at this
          exact Nat.div_lt_of_lt_mul (by rw [Nat.mul_comm]; exact this)
        · rw [HX.out, hxL_big u hbig, HD0.out]; simp
      case measure => simp [intOf]; omega

end Go.Proofs.YtelkimgcbkmdmaaDoor
