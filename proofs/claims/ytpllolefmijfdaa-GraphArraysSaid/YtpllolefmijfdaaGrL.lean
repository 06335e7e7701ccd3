/-
  The law GraphArrays: an array of any length has as many fragments and words of a spine as its shape says; its elements are as at first; its length and kind are told.
-/
import Derived.Test.YtpllolefmijfdaaGrJ
namespace Go.Proofs.Ytpllolefmijfdaa
open Go.RowKit Go.ChangeShapes Go.WideShapes Go.ChangeAt

/-- Operations that have just been laid: what they answer is known. -/
theorem Gx.oneVal {w0 w : World} {F : Nat → Prop} {G : Nat} {st st' : GS} {ops : List Op20} {v : Vl} {er : Int} (h : Gx w0 F G st w) (hr : Runs st zeroVl 0 ops v er st') (hlen : ops.length ≤ 1000) :
    Calls Try.prog 10 #[.pointer (some ⟨G, 0, none⟩), .slice (some ⟨w.heap.size, 0, none⟩) ops.length ops.length] (w.alloc (.cells (ocs ops).toArray 38)) fun e w' => e = .returned (.tuple #[.agg #[.bool v.r, .complex .f64 v.x v.y], .int .i64 er]) ∧ Gx w0 F G st' w' ∧ KeepF F w w' :=
  ((h.alloc (.cells (ocs ops).toArray 38)).run (heap_alloc_new w _) (.inr rfl) hr hlen).mono fun _ _ ⟨a, b, c⟩ => ⟨a, b.mono fun _ hk => .inl hk, fun q o hq ho => c q o (.inl hq) (Pure.blk ((Only.refl (fun _ => False) w).alloc _) ho)⟩

namespace graphArrays
def cA : Cn := ⟨100, 100, 2, 2, 4, 0, 4, 0⟩
def stA (th : List Th) (l : Option (List Vl)) : GS := ⟨cA, shW, th, l, g2⟩
theorem checkA (v1 v2 v3 : Value) : checkI cA (lW v1 v2 v3) = 0 := rfl
theorem newA {w : World} {b : Nat} {v1 v2 v3 : Value} (h : ShsR w w.heap.size (.slice (some ⟨b, 0, none⟩) 3 3) (lW v1 v2 v3)) :
    Calls Try.prog 8 #[cnV cA (.slice (some ⟨b, 0, none⟩) 3 3)] w fun e w' => ∃ G, e = .returned (.tuple #[.pointer (some ⟨G, 0, none⟩), .int .i64 0]) ∧ Gx w (fun _ => False) G (stA [] none) w' :=
  (new_any cA _ (lW v1 v2 v3) w h (checkA v1 v2 v3) 2 rfl (by omega) (by simp [lW]) (by intro s hs; simp [lW] at hs; rcases hs with rfl | rfl | rfl <;> simp)).mono fun e w' ⟨G, κ, h1, h2, h3, h4⟩ => ⟨G, h1, Gx.new h2 h3 h4⟩
theorem joinA {w0 w : World} {F : Nat → Prop} {G : Nat} {th : List Th} (h : Gx w0 F G (stA th none) w) :
    Calls Try.prog 9 #[.pointer (some ⟨G, 0, none⟩), .int .i64 0] w fun e w' => e = .returned (.bool true) ∧ Gx w0 F G (stA th (some l0)) w' ∧ KeepF F w w' :=
  h.join rfl (by show (0 : Int) < 2; omega) 4 rfl (by omega)

theorem sizeA (n : Nat) (h : n ≤ 512) : (0 ≤ sizeI true 1 n ∧ sizeI true 1 n ≤ 100) ∧ 0 ≤ spineI true 1 n ∧ spineI true 1 n ≤ 100 := by
  have hm : mayB true 1 = true := rfl
  have hd : 0 ≤ dataI n ∧ dataI n ≤ 64 := by unfold dataI; split <;> omega
  have e1 : sizeI true 1 n = 1 + dataI n := by
    unfold sizeI
    rw [if_neg (by rw [hm]; simp; omega), if_pos rfl]
  constructor
  · rw [e1]; omega
  · unfold spineI
    split <;> omega
def zA (ref : Bool) : Nat × Nat := if ref then nW else (0, 0)
def thA (kd n : Nat) (ref : Bool) : Th := mdTh kd true n [ref] n
theorem thA_get (kd n : Nat) (ref : Bool) (k : Nat) (hk : k < n) : (thA kd n ref).l[k]? = some (zA ref) := by
  cases ref <;> simp [thA, mdTh, zA, nW, hk]
theorem thA_get' {kd n : Nat} {ref : Bool} {k : Nat} {z : Nat × Nat} (h : (thA kd n ref).l[k]? = some z) : z = zA ref := by
  have hk : k < n := by
    have := (List.getElem?_eq_some_iff.1 h).1
    simpa [thA, mdTh] using this
  rw [thA_get kd n ref k hk] at h
  injection h with h
  exact h.symm
def l1 (u : Vl) : List Vl := [refVl 0, u, zeroVl, zeroVl]
section
variable (kd n : Nat) (ref : Bool) (hs : shW[kd]? = some (true, [ref])) (hn : n ≤ 512)
include hn
include hs in
theorem runsA : Runs (stA [] (some l0)) zeroVl 0 [⟨2, 0, kd, 0, n, 0, 0⟩] (refVl 0) 0 (stA [thA kd n ref] (some (l1 zeroVl))) := by
  have hz := sizeA n hn
  have h1 : Stp (stA [] (some l0)) ⟨2, 0, kd, 0, n, 0, 0⟩ (refVl 0) 0 (stA [thA kd n ref] (some (l1 zeroVl))) :=
    stp_array (st := stA [] (some l0)) (l := l0) rfl (by show (4 : Int) ≤ 4; omega) (by show 0 ≤ 100000; omega) 0 kd n (by simp) ref hs (by omega) hz.1.1 hz.1.2 hz.2.2 0 0 0
  exact .cons h1 .nil
theorem runsN : Runs (stA [thA kd n ref] (some (l1 zeroVl))) zeroVl 0 [⟨10, 1, 0, 0, 0, 0, 0⟩] (numVl n) 0 (stA [thA kd n ref] (some (l1 (numVl n)))) := by
  have h1 : Stp (stA [thA kd n ref] (some (l1 zeroVl))) ⟨10, 1, 0, 0, 0, 0, 0⟩ (numVl n) 0 (stA [thA kd n ref] (some (l1 (numVl n)))) :=
    stp_length (st := stA [thA kd n ref] (some (l1 zeroVl))) (l := l1 zeroVl) rfl (by show (4 : Int) ≤ 4; omega) (by show 1 ≤ 100000; omega) 1 0 0 (by simp [l1]) (thA kd n ref) rfl rfl rfl (by show -9007199254740992 ≤ (n : Int); omega) (by show (n : Int) ≤ 9007199254740992; omega) 0 0 0 0
  exact .cons h1 .nil
omit hn in
theorem runsT (hk : kd ≤ 2) : Runs (stA [thA kd n ref] (some (l1 (numVl n)))) zeroVl 0 [⟨11, 1, 0, 0, 0, 0, 0⟩] (numVl kd) 0 (stA [thA kd n ref] (some (l1 (numVl kd)))) := by
  have h1 : Stp (stA [thA kd n ref] (some (l1 (numVl n)))) ⟨11, 1, 0, 0, 0, 0, 0⟩ (numVl kd) 0 (stA [thA kd n ref] (some (l1 (numVl kd)))) :=
    stp_kind (st := stA [thA kd n ref] (some (l1 (numVl n)))) (l := l1 (numVl n)) rfl (by show (4 : Int) ≤ 4; omega) (by show 1 ≤ 100000; omega) 1 0 0 (by simp [l1]) (thA kd n ref) rfl rfl (by show -9007199254740992 ≤ (kd : Int); omega) (by show (kd : Int) ≤ 9007199254740992; omega) 0 0 0 0
  exact .cons h1 .nil
omit hn in
theorem runsG (u : Vl) (k : Nat) (hk : k < n) : Runs (stA [thA kd n ref] (some (l1 u))) zeroVl 0 [⟨5, 1, 0, 0, k, 0, 0⟩] ⟨ref, (zA ref).1, (zA ref).2⟩ 0 (stA [thA kd n ref] (some (l1 ⟨ref, (zA ref).1, (zA ref).2⟩))) := by
  have h1 : Stp (stA [thA kd n ref] (some (l1 u))) ⟨5, 1, 0, 0, k, 0, 0⟩ ⟨ref, (zA ref).1, (zA ref).2⟩ 0 (stA [thA kd n ref] (some (l1 ⟨ref, (zA ref).1, (zA ref).2⟩))) :=
    stp_get (st := stA [thA kd n ref] (some (l1 u))) (l := l1 u) rfl (by show (4 : Int) ≤ 4; omega) (by show 1 ≤ 100000; omega) 1 0 0 k (by simp [l1]) (thA kd n ref) (zA ref) ref rfl rfl rfl (thA_get kd n ref k hk) rfl (by simp [thA, mdTh]) 0 0 0
  exact .cons h1 .nil
omit hn in
theorem wellA (m : Nat) : WellF (stA [thA kd n ref] (some (l1 (numVl m)))) where
  glo := fun v hv => by
    simp [stA] at hv
    subst hv
    exact OkW.none _
  loc := fun l e v hv hr => by
    simp only [stA, Option.some.injEq] at e
    subst e
    simp [l1] at hv
    rcases hv with rfl | rfl | rfl
    · exact OkW.ref (n := 1) (i := 0) (by omega)
    · cases hr
    · cases hr
  fld := fun i t ht k z hz => by
    have : i = 0 := by have := (List.getElem?_eq_some_iff.1 ht).1; simp [stA] at this; omega
    subst this
    simp [stA] at ht
    subst ht
    refine ⟨ref, rfl, fun h => ?_⟩
    rw [thA_get' hz, h]
    exact OkW.none _
  rsl := fun i t ht => by
    have : i = 0 := by have := (List.getElem?_eq_some_iff.1 ht).1; simp [stA] at this; omega
    subst this
    simp [stA] at ht
    subst ht
    simp [thA, mdTh]
  len := by simp [stA]
theorem szA (l : Option (List Vl)) : SzOk (stA [thA kd n ref] l) := by
  have h := sizeA n hn
  constructor <;> intro i <;> cases i with
  | zero =>
    simp only [szI, spI, stA, List.getElem?_cons_zero]
    show 0 ≤ _ ∧ _
    first | exact ⟨h.1.1, Int.le_trans h.1.2 (by omega)⟩ | exact ⟨h.2.1, Int.le_trans h.2.2 (by omega)⟩
  | succ i => simp [szI, spI, stA]
omit hn in
theorem liveA (m : Nat) : sumI (szI (stA [thA kd n ref] (some (l1 (numVl m))))) (reachL (stA [thA kd n ref] (some (l1 (numVl m))))) = sizeI true 1 n ∧ sumI (spI (stA [thA kd n ref] (some (l1 (numVl m))))) (reachL (stA [thA kd n ref] (some (l1 (numVl m))))) = spineI true 1 n := by
  rw [reachL_all (fun i hi => by
    have : i = 0 := by simp [stA] at hi; omega
    subst this
    exact .loc (l := l1 (numVl m)) (v := refVl 0) rfl (by simp [l1]) rfl rfl (by simp [stA]))]
  constructor
  · show szI _ 0 + 0 = _
    rw [Int.add_zero]; rfl
  · show spI _ 0 + 0 = _
    rw [Int.add_zero]; rfl
end
theorem same_self (a b : Nat) : sameB a b a b = true := by simp [sameB]



set_option maxRecDepth 100000 in
set_option maxHeartbeats 8000000 in
theorem out (n : Int) (ref : Bool) (w : World) (h : n < 0 ∨ 512 < n) : Calls Try.prog 4 #[.int .i64 n, .bool ref] w fun e w' => e = .returned (.bool true) ∧ Pure w w' := by
  go_enter Try.func4, Try.ntmps4
  go_wp2_with fail
  refine (first_any _).mono ?_
  rintro e w1 ⟨rfl, hp1⟩
  have P1 := Lib.hid hp1
  clear hp1
  go_wp2_with fail
  refine (wide_any _).mono ?_
  rintro e w2 ⟨b, v1, v2, v3, rfl, hp2, hs⟩
  have P2 := Lib.hid (P1.out.then hp2)
  have HS := Lib.hid hs
  clear hp2 hs
  unfold cnV cW
  go_wp2_with fail
  refine (newA (HS.out.pure ((Only.refl _ _).alloc _))).mono ?_
  rintro e w3 ⟨G, rfl, hx⟩
  have X3 := Lib.hid hx
  clear hx
  go_wp2_with fail
  refine (joinA X3.out).mono ?_
  rintro e w4 ⟨rfl, hx, -⟩
  have X4 := Lib.hid hx
  clear hx
  have P4 := Lib.hid (show Pure w w4 from Pure.then (P2.out.alloc _) X4.out.pu)
  rcases h with h | h
  · go_wp2_with fail
    refine (first_any _).mono ?_
    rintro e w5 ⟨rfl, hp5⟩
    have P5 := Lib.hid hp5
    clear hp5
    go_wp2_with fail
    go_ret
    exact ⟨rfl, P4.out.then P5.out⟩
  · have h1 : ¬ n < 0 := by omega
    go_wp2_with fail
    refine (first_any _).mono ?_
    rintro e w5 ⟨rfl, hp5⟩
    have P5 := Lib.hid hp5
    clear hp5
    go_wp2_with fail
    go_ret
    exact ⟨rfl, P4.out.then P5.out⟩

set_option maxRecDepth 100000 in
set_option maxHeartbeats 16000000 in
theorem main_f (n : Nat) (w : World) (hn : n ≤ 512) : Calls Try.prog 4 #[.int .i64 n, .bool false] w fun e w' => e = .returned (.bool true) ∧ Pure w w' := by
  have ha : ¬ (n : Int) < 0 := by omega
  have hb : ¬ 512 < (n : Int) := by omega
  go_enter Try.func4, Try.ntmps4
  go_wp2_with fail
  refine (first_any _).mono ?_
  rintro e w1 ⟨rfl, hp1⟩
  have P1 := Lib.hid hp1
  clear hp1
  go_wp2_with fail
  refine (wide_any _).mono ?_
  rintro e w2 ⟨b, v1, v2, v3, rfl, hp2, hs⟩
  have P2 := Lib.hid (P1.out.then hp2)
  have HS := Lib.hid hs
  clear hp2 hs
  unfold cnV cW
  go_wp2_with fail
  refine (newA (HS.out.pure ((Only.refl _ _).alloc _))).mono ?_
  rintro e w3 ⟨G, rfl, hx⟩
  have X3 := Lib.hid hx
  clear hx
  go_wp2_with fail
  refine (joinA X3.out).mono ?_
  rintro e w4 ⟨rfl, hx, -⟩
  obtain ⟨W0, hW0⟩ : ∃ W0, W0 = w2.alloc (.cells #[.int .i64 100, .int .i64 100, .int .i64 2, .int .i64 2, .int .i64 4, .int .i64 0, .int .i64 4, .int .i64 0, .slice (some ⟨b, 0, none⟩) 3 3] 25) := ⟨_, rfl⟩
  have X4 := Lib.hid (show Gx W0 (fun _ => False) G (stA [] (some l0)) w4 from hW0 ▸ hx)
  have P4 := Lib.hid (show Pure w W0 from hW0 ▸ P2.out.alloc _)
  clear hx hW0
  go_wp2_with fail
  refine (X4.out.oneVal (runsA 2 n false rfl hn) (by simp)).mono ?_
  rintro e w5 ⟨rfl, hx, -⟩
  generalize (refVl 0).r = q0
  generalize (refVl 0).x = q1
  generalize (refVl 0).y = q2
  have X5 := Lib.hid (hx.keep ((Only.refl _ w5).alloc (.cells #[.bool q0, .complex .f64 q1 q2] 34)))
  clear hx
  go_wp2_with fail
  rw [show w5.heap.size + 1 = (w5.alloc (.cells #[.bool q0, .complex .f64 q1 q2] 34)).heap.size from by simp]
  generalize w5.alloc (.cells #[.bool q0, .complex .f64 q1 q2] 34) = w6 at *
  refine (X5.out.oneVal (runsN 2 n false hn) (by simp)).mono ?_
  rw [show (numVl (n : Int)).r = false from rfl, show (numVl (n : Int)).x = floatOfInt .f64 n from rfl, show (numVl (n : Int)).y = 0 from rfl]
  rintro e w7 ⟨rfl, hx, -⟩
  obtain ⟨fn, hfn⟩ : ∃ fn, floatOfInt .f64 (n : Int) = fn := ⟨_, rfl⟩
  have hfl : fn < 18446744073709551616 := by rw [← hfn]; exact floatOfInt_lt n
  rw [hfn]
  have HFN := Lib.hid hfn
  have X7 := Lib.hid (hx.alloc (.cells #[.bool false, .complex .f64 fn 0] 34))
  have B7 := Lib.hid (heap_alloc_new w7 (.cells #[.bool false, .complex .f64 fn 0] 34))
  clear hx hfn
  go_wp2_with fail
  rw [show w7.heap.size + 1 = (w7.alloc (.cells #[.bool false, .complex .f64 fn 0] 34)).heap.size from by simp]
  generalize w7.alloc (.cells #[.bool false, .complex .f64 fn 0] 34) = w8 at *
  generalize w7.heap.size = R at *
  refine (X7.out.oneVal (runsT 2 n false (by omega)) (by simp)).mono ?_
  rw [show (numVl ((2 : Nat) : Int)).r = false from rfl, show (numVl ((2 : Nat) : Int)).x = floatOfInt .f64 2 from rfl, show (numVl ((2 : Nat) : Int)).y = 0 from rfl]
  rintro e w9 ⟨rfl, hx, hk⟩
  obtain ⟨fk, hfk⟩ : ∃ fk, floatOfInt .f64 (2 : Int) = fk := ⟨_, rfl⟩
  have hfl2 : fk < 18446744073709551616 := by rw [← hfk]; exact floatOfInt_lt 2
  rw [hfk]
  have HFK := Lib.hid hfk
  have hpa := (Only.refl (fun _ => False) w9).alloc (.cells #[.bool false, .complex .f64 fk 0] 34)
  have B9 := Lib.hid (Pure.blk hpa (hk R _ (.inr rfl) B7.out))
  have X9 := Lib.hid (hx.keep hpa)
  have C9 := Lib.hid (heap_alloc_new w9 (.cells #[.bool false, .complex .f64 fk 0] 34))
  clear hx hk hpa hfk
  go_wp2_with fail
  generalize w9.alloc (.cells #[.bool false, .complex .f64 fk 0] 34) = w10 at *
  generalize w9.heap.size = R2 at *
  obtain ⟨z1, hz1⟩ : ∃ z1, sizeI true 1 (n : Int) = z1 := ⟨_, rfl⟩
  obtain ⟨z2, hz2⟩ : ∃ z2, spineI true 1 (n : Int) = z2 := ⟨_, rfl⟩
  have HL := Lib.hid (liveA 2 n false 2)
  have HZ1 := Lib.hid hz1
  have HZ2 := Lib.hid hz2
  clear hz1 hz2
  refine (X9.out.live (wellA 2 n false 2) (by show 2 ≤ 1000000; omega) (szA 2 n false hn _) z1 z2 (HL.out.1.trans HZ1.out) (HL.out.2.trans HZ2.out)).mono ?_
  rintro e w11 ⟨rfl, hx, hp⟩
  have hpa := ((Only.refl (fun _ => False) w11).alloc (.cells #[.bool false] 4)).alloc (.cells #[.bool true, .slice (some ⟨w11.heap.size, 0, none⟩) 1 1] 46)
  have X11 := Lib.hid (hx.keep hpa)
  have B11 := Lib.hid (Pure.blk hpa (Pure.blk hp B9.out))
  have C11 := Lib.hid (Pure.blk hpa (Pure.blk hp C9.out))
  have S11 := Lib.hid (heap_alloc_new (w11.alloc (.cells #[.bool false] 4)) (.cells #[.bool true, .slice (some ⟨w11.heap.size, 0, none⟩) 1 1] 46))
  clear hx hp hpa
  go_wp2_with fail
  generalize (w11.alloc (.cells #[.bool false] 4)).alloc (.cells #[.bool true, .slice (some ⟨w11.heap.size, 0, none⟩) 1 1] 46) = w12 at *
  refine (size_any true (some ⟨w11.heap.size, 0, none⟩) 1 1 (n : Int) w12 (by omega)).mono ?_
  rw [HZ1.out]
  rintro e w13 ⟨rfl, hp⟩
  have X13 := Lib.hid (X11.out.keep hp)
  have B13 := Lib.hid (Pure.blk hp B11.out)
  have C13 := Lib.hid (Pure.blk hp C11.out)
  have S13 := Pure.blk hp S11.out
  have s0 : w13.cell? ⟨w11.heap.size + 1, 0, none⟩ = some (.bool true) := by
    have e1 : (w11.alloc (.cells #[.bool false] 4)).heap.size = w11.heap.size + 1 := by simp
    rw [← e1, cell_of_row _ _ _ _ _ _ S13]; rfl
  have s1 : w13.cell? ⟨w11.heap.size + 1, 1, none⟩ = some (.slice (some ⟨w11.heap.size, 0, none⟩) 1 1) := by
    have e1 : (w11.alloc (.cells #[.bool false] 4)).heap.size = w11.heap.size + 1 := by simp
    rw [← e1, cell_of_row _ _ _ _ _ _ S13]; rfl
  clear hp S13
  go_wp2_with fail
  refine (spine_any true (some ⟨w11.heap.size, 0, none⟩) 1 1 (n : Int) w13 (by omega)).mono ?_
  rw [HZ2.out]
  rintro e w14 ⟨rfl, hp⟩
  have X14 := Lib.hid (X13.out.keep hp)
  obtain ⟨-, q3, -, -⟩ := val2 (Pure.blk hp B13.out)
  obtain ⟨-, q4, -, -⟩ := val2 (Pure.blk hp C13.out)
  have hfn := HFN.out
  have hfk := HFK.out
  clear hp s0 s1
  go_wp2_with fail
  refine (word_any _ _ _ _ _ (by first | assumption | omega) (by first | assumption | omega) (by first | assumption | omega) (by first | assumption | omega)).mono ?_
  rw [same_self]
  rintro e w15 ⟨rfl, rfl⟩
  go_wp2_with fail
  refine (word_any _ _ _ _ _ (by first | assumption | omega) (by first | assumption | omega) (by first | assumption | omega) (by first | assumption | omega)).mono ?_
  rw [same_self]
  rintro e w15 ⟨rfl, rfl⟩
  clear q3 q4 hfn hfk
  go_wp2_with fail
  go_loopw [18] (fun i wr => ∃ (k : Nat) (u : Vl), k ≤ n ∧ i = .int .i64 k ∧ Gx W0 (fun _ => False) G (stA [thA 2 n false] (some (l1 u))) wr) (fun i _ => n - (intOf i).toNat)
  case atStart => exact ⟨0, _, Nat.zero_le _, rfl, X14.out.mono fun _ f => f.elim⟩
  case round =>
    clear X14 X13 X11 X9 X7 X5 X4 X3
    obtain ⟨k, u, hk, rfl, hx⟩ := hrel
    have X := Lib.hid hx
    clear hx
    by_cases hlt : k < n
    · go_wp2_with fail
      refine (X.out.oneVal (runsG 2 n false u k hlt) (by simp)).mono ?_
      rw [show (zA false).1 = 0 from rfl, show (zA false).2 = 0 from rfl]
      rintro e w16 ⟨rfl, hx, -⟩
      have X16 := Lib.hid (hx.keep ((Only.refl _ w16).alloc (.cells #[.bool false, .complex .f64 0 0] 34)))
      clear hx
      go_wp2_with fail
      refine (word_any 0 0 0 0 _ (by omega) (by omega) (by omega) (by omega)).mono ?_
      rw [same_self]
      rintro e w17 ⟨rfl, rfl⟩
      go_wp2_with fail
      go_roundw
      case rel => exact ⟨k + 1, _, by omega, by go_num, X16.out⟩
      case measure => simp [intOf]; omega
    · obtain rfl : k = n := by omega
      go_wp2_with fail
      refine (first_any _).mono ?_
      rintro e w17 ⟨rfl, hp⟩
      have X17 := Lib.hid (X.out.keep hp)
      clear hp
      go_wp2_with fail
      go_ret
      exact ⟨rfl, P4.out.then X17.out.pu⟩

set_option maxRecDepth 100000 in
set_option maxHeartbeats 16000000 in
theorem main_t (n : Nat) (w : World) (hn : n ≤ 512) : Calls Try.prog 4 #[.int .i64 n, .bool true] w fun e w' => e = .returned (.bool true) ∧ Pure w w' := by
  have ha : ¬ (n : Int) < 0 := by omega
  have hb : ¬ 512 < (n : Int) := by omega
  go_enter Try.func4, Try.ntmps4
  go_wp2_with fail
  refine (first_any _).mono ?_
  rintro e w1 ⟨rfl, hp1⟩
  have P1 := Lib.hid hp1
  clear hp1
  go_wp2_with fail
  refine (wide_any _).mono ?_
  rintro e w2 ⟨b, v1, v2, v3, rfl, hp2, hs⟩
  have P2 := Lib.hid (P1.out.then hp2)
  have HS := Lib.hid hs
  clear hp2 hs
  unfold cnV cW
  go_wp2_with fail
  refine (newA (HS.out.pure ((Only.refl _ _).alloc _))).mono ?_
  rintro e w3 ⟨G, rfl, hx⟩
  have X3 := Lib.hid hx
  clear hx
  go_wp2_with fail
  refine (joinA X3.out).mono ?_
  rintro e w4 ⟨rfl, hx, -⟩
  obtain ⟨W0, hW0⟩ : ∃ W0, W0 = w2.alloc (.cells #[.int .i64 100, .int .i64 100, .int .i64 2, .int .i64 2, .int .i64 4, .int .i64 0, .int .i64 4, .int .i64 0, .slice (some ⟨b, 0, none⟩) 3 3] 25) := ⟨_, rfl⟩
  have X4 := Lib.hid (show Gx W0 (fun _ => False) G (stA [] (some l0)) w4 from hW0 ▸ hx)
  have P4 := Lib.hid (show Pure w W0 from hW0 ▸ P2.out.alloc _)
  clear hx hW0
  go_wp2_with fail
  refine (X4.out.oneVal (runsA 1 n true rfl hn) (by simp)).mono ?_
  rintro e w5 ⟨rfl, hx, -⟩
  generalize (refVl 0).r = q0
  generalize (refVl 0).x = q1
  generalize (refVl 0).y = q2
  have X5 := Lib.hid (hx.keep ((Only.refl _ w5).alloc (.cells #[.bool q0, .complex .f64 q1 q2] 34)))
  clear hx
  go_wp2_with fail
  rw [show w5.heap.size + 1 = (w5.alloc (.cells #[.bool q0, .complex .f64 q1 q2] 34)).heap.size from by simp]
  generalize w5.alloc (.cells #[.bool q0, .complex .f64 q1 q2] 34) = w6 at *
  refine (X5.out.oneVal (runsN 1 n true hn) (by simp)).mono ?_
  rw [show (numVl (n : Int)).r = false from rfl, show (numVl (n : Int)).x = floatOfInt .f64 n from rfl, show (numVl (n : Int)).y = 0 from rfl]
  rintro e w7 ⟨rfl, hx, -⟩
  obtain ⟨fn, hfn⟩ : ∃ fn, floatOfInt .f64 (n : Int) = fn := ⟨_, rfl⟩
  have hfl : fn < 18446744073709551616 := by rw [← hfn]; exact floatOfInt_lt n
  rw [hfn]
  have HFN := Lib.hid hfn
  have X7 := Lib.hid (hx.alloc (.cells #[.bool false, .complex .f64 fn 0] 34))
  have B7 := Lib.hid (heap_alloc_new w7 (.cells #[.bool false, .complex .f64 fn 0] 34))
  clear hx hfn
  go_wp2_with fail
  rw [show w7.heap.size + 1 = (w7.alloc (.cells #[.bool false, .complex .f64 fn 0] 34)).heap.size from by simp]
  generalize w7.alloc (.cells #[.bool false, .complex .f64 fn 0] 34) = w8 at *
  generalize w7.heap.size = R at *
  refine (X7.out.oneVal (runsT 1 n true (by omega)) (by simp)).mono ?_
  rw [show (numVl ((1 : Nat) : Int)).r = false from rfl, show (numVl ((1 : Nat) : Int)).x = floatOfInt .f64 1 from rfl, show (numVl ((1 : Nat) : Int)).y = 0 from rfl]
  rintro e w9 ⟨rfl, hx, hk⟩
  obtain ⟨fk, hfk⟩ : ∃ fk, floatOfInt .f64 (1 : Int) = fk := ⟨_, rfl⟩
  have hfl2 : fk < 18446744073709551616 := by rw [← hfk]; exact floatOfInt_lt 1
  rw [hfk]
  have HFK := Lib.hid hfk
  have hpa := (Only.refl (fun _ => False) w9).alloc (.cells #[.bool false, .complex .f64 fk 0] 34)
  have B9 := Lib.hid (Pure.blk hpa (hk R _ (.inr rfl) B7.out))
  have X9 := Lib.hid (hx.keep hpa)
  have C9 := Lib.hid (heap_alloc_new w9 (.cells #[.bool false, .complex .f64 fk 0] 34))
  clear hx hk hpa hfk
  go_wp2_with fail
  generalize w9.alloc (.cells #[.bool false, .complex .f64 fk 0] 34) = w10 at *
  generalize w9.heap.size = R2 at *
  obtain ⟨z1, hz1⟩ : ∃ z1, sizeI true 1 (n : Int) = z1 := ⟨_, rfl⟩
  obtain ⟨z2, hz2⟩ : ∃ z2, spineI true 1 (n : Int) = z2 := ⟨_, rfl⟩
  have HL := Lib.hid (liveA 1 n true 1)
  have HZ1 := Lib.hid hz1
  have HZ2 := Lib.hid hz2
  clear hz1 hz2
  refine (X9.out.live (wellA 1 n true 1) (by show 2 ≤ 1000000; omega) (szA 1 n true hn _) z1 z2 (HL.out.1.trans HZ1.out) (HL.out.2.trans HZ2.out)).mono ?_
  rintro e w11 ⟨rfl, hx, hp⟩
  have hpa := ((Only.refl (fun _ => False) w11).alloc (.cells #[.bool true] 4)).alloc (.cells #[.bool true, .slice (some ⟨w11.heap.size, 0, none⟩) 1 1] 46)
  have X11 := Lib.hid (hx.keep hpa)
  have B11 := Lib.hid (Pure.blk hpa (Pure.blk hp B9.out))
  have C11 := Lib.hid (Pure.blk hpa (Pure.blk hp C9.out))
  have S11 := Lib.hid (heap_alloc_new (w11.alloc (.cells #[.bool true] 4)) (.cells #[.bool true, .slice (some ⟨w11.heap.size, 0, none⟩) 1 1] 46))
  clear hx hp hpa
  go_wp2_with fail
  generalize (w11.alloc (.cells #[.bool true] 4)).alloc (.cells #[.bool true, .slice (some ⟨w11.heap.size, 0, none⟩) 1 1] 46) = w12 at *
  refine (size_any true (some ⟨w11.heap.size, 0, none⟩) 1 1 (n : Int) w12 (by omega)).mono ?_
  rw [HZ1.out]
  rintro e w13 ⟨rfl, hp⟩
  have X13 := Lib.hid (X11.out.keep hp)
  have B13 := Lib.hid (Pure.blk hp B11.out)
  have C13 := Lib.hid (Pure.blk hp C11.out)
  have S13 := Pure.blk hp S11.out
  have s0 : w13.cell? ⟨w11.heap.size + 1, 0, none⟩ = some (.bool true) := by
    have e1 : (w11.alloc (.cells #[.bool true] 4)).heap.size = w11.heap.size + 1 := by simp
    rw [← e1, cell_of_row _ _ _ _ _ _ S13]; rfl
  have s1 : w13.cell? ⟨w11.heap.size + 1, 1, none⟩ = some (.slice (some ⟨w11.heap.size, 0, none⟩) 1 1) := by
    have e1 : (w11.alloc (.cells #[.bool true] 4)).heap.size = w11.heap.size + 1 := by simp
    rw [← e1, cell_of_row _ _ _ _ _ _ S13]; rfl
  clear hp S13
  go_wp2_with fail
  refine (spine_any true (some ⟨w11.heap.size, 0, none⟩) 1 1 (n : Int) w13 (by omega)).mono ?_
  rw [HZ2.out]
  rintro e w14 ⟨rfl, hp⟩
  have X14 := Lib.hid (X13.out.keep hp)
  obtain ⟨-, q3, -, -⟩ := val2 (Pure.blk hp B13.out)
  obtain ⟨-, q4, -, -⟩ := val2 (Pure.blk hp C13.out)
  have hfn := HFN.out
  have hfk := HFK.out
  clear hp s0 s1
  go_wp2_with fail
  refine (word_any _ _ _ _ _ (by first | assumption | omega) (by first | assumption | omega) (by first | assumption | omega) (by first | assumption | omega)).mono ?_
  rw [same_self]
  rintro e w15 ⟨rfl, rfl⟩
  go_wp2_with fail
  refine (word_any _ _ _ _ _ (by first | assumption | omega) (by first | assumption | omega) (by first | assumption | omega) (by first | assumption | omega)).mono ?_
  rw [same_self]
  rintro e w15 ⟨rfl, rfl⟩
  clear q3 q4 hfn hfk
  go_wp2_with fail
  go_loopw [18] (fun i wr => ∃ (k : Nat) (u : Vl), k ≤ n ∧ i = .int .i64 k ∧ Gx W0 (fun _ => False) G (stA [thA 1 n true] (some (l1 u))) wr) (fun i _ => n - (intOf i).toNat)
  case atStart => exact ⟨0, _, Nat.zero_le _, rfl, X14.out.mono fun _ f => f.elim⟩
  case round =>
    clear X14 X13 X11 X9 X7 X5 X4 X3
    obtain ⟨k, u, hk, rfl, hx⟩ := hrel
    have X := Lib.hid hx
    clear hx
    by_cases hlt : k < n
    · go_wp2_with fail
      refine (X.out.oneVal (runsG 1 n true u k hlt) (by simp)).mono ?_
      rw [show (zA true).1 = 0 from rfl, show (zA true).2 = 4607182418800017408 from rfl]
      rintro e w16 ⟨rfl, hx, -⟩
      have X16 := Lib.hid (hx.keep ((Only.refl _ w16).alloc (.cells #[.bool true, .complex .f64 0 4607182418800017408] 34)))
      clear hx
      go_wp2_with fail
      refine (word_any 0 4607182418800017408 0 4607182418800017408 _ (by omega) (by omega) (by omega) (by omega)).mono ?_
      rw [same_self]
      rintro e w17 ⟨rfl, rfl⟩
      go_wp2_with fail
      go_roundw
      case rel => exact ⟨k + 1, _, by omega, by go_num, X16.out⟩
      case measure => simp [intOf]; omega
    · obtain rfl : k = n := by omega
      go_wp2_with fail
      refine (first_any _).mono ?_
      rintro e w17 ⟨rfl, hp⟩
      have X17 := Lib.hid (X.out.keep hp)
      clear hp
      go_wp2_with fail
      go_ret
      exact ⟨rfl, P4.out.then X17.out.pu⟩

theorem walk (w : World) (n : Int) (_ : -9223372036854775808 ≤ n ∧ n ≤ 9223372036854775807) (ref : Bool) :
    Calls Try.prog 4 #[.int .i64 n, .bool ref] w fun e w' => e = .returned (.bool true) ∧ Pure w w' := by
  by_cases h : n < 0 ∨ 512 < n
  · exact out n ref w h
  · obtain ⟨m, rfl⟩ := Int.eq_ofNat_of_zero_le (show 0 ≤ n by omega)
    cases ref
    · exact main_f m w (by omega)
    · exact main_t m w (by omega)

set_option maxRecDepth 100000 in
theorem lifted (os : Os) (started : os.Started) (H : Type) (enc : TypeId × Value → H) :
    ReturnsInHanded {} Try.checked os 4 .any (Rows.graphArraysSpec.pre6 enc Try.prog Try.f4 Rows.graphArraysRow.domain false) (Rows.graphArraysSpec.post enc Try.prog Try.f4 false true false false) :=
  lift_law (C := Try.checked) own started (by kernel_rfl) Try.func4 laidOut (by kernel_rfl) rfl rfl Try.underlying4
    (fun ds h => by match ds, h with | [_, _], _ => rfl)
    (ChangeSpec.witness6 (enc := enc) (C := Try.checked) false ⟨#[], #[.int .i64 0, .bool false], []⟩ 8 (by kernel_rfl) (by kernel_rfl) (by kernel_rfl) (by kernel_rfl))
    (fun W base args ds ps hval hA hlt => by
      have hA' : DataW.TrodAll enc Try.prog W 0 (fun _ => true) true Try.f4.params.toList args.toList ds ps := hA
      rw [Try.params4] at hA'
      have hval' : ∀ (j : Nat) t v, Try.f4.params[j]? = some t → args[j]? = some v → Value.okWide Try.prog W .any base t v := hval
      rw [Try.params4] at hval'
      obtain ⟨v0, vs0, d0, ds0, p0, q0, hargs, rfl, rfl, h0, r0⟩ := trodAll_cons hA'
      obtain ⟨v1, vs1, d1, ds1, p1, q1, rfl, rfl, rfl, h1, r1⟩ := trodAll_cons r0
      obtain ⟨rfl, rfl, rfl⟩ := trodAll_nil r1
      obtain rfl : args = #[v0, v1] := by cases args; simp_all
      obtain ⟨a0, rfl, rfl, rfl, w0⟩ := open_int Try.underlying3 (hval' 0 3 v0 rfl rfl) h0
      obtain ⟨a1, rfl, rfl, rfl⟩ := open_bool Try.underlying4 (hval' 1 4 v1 rfl rfl) h1
      exact (walk W a0 (int_bounds w0) a1).mono fun e W' ⟨he, hp⟩ => ⟨he, hp.below⟩)

/-- The statement. -/
theorem proved : Rows.GraphArraysSaid :=
  OpenClaim.holds_of_wide 4 Try.f4 rfl rfl rfl rfl rfl rfl rfl ⟨rfl, rfl, rfl, rfl, rfl⟩ rfl rfl rfl rfl rfl (by kernel_rfl) Try.func4 (by kernel_rfl)
    (of_decide_eq_true (by kernel_rfl)) (by unfold Func.isWrapper; first | (rw [if_pos (by decide +kernel)]; kernel_rfl) | (rw [if_neg (by decide +kernel)]; exact ⟨rfl, rfl⟩))
    (fun os started H enc _ => lifted os started H enc)
#print axioms proved

end Go.Proofs.Ytpllolefmijfdaa.graphArrays

