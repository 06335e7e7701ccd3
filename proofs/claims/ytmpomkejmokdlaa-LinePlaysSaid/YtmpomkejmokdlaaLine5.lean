/-
  The chapter's own first look.
-/
import Derived.Test.YtmpomkejmokdlaaLine4
namespace Go.Proofs.Ytmpomkejmokdlaa
open Go.RowKit

/-- A request of a thread and nothing else. -/
def req (t : Int) : En := ⟨t, 0, 0, 0, 0, 0, .slice none 0 0, [], false⟩

set_option maxRecDepth 100000 in
theorem first_look (w : World) : Calls Try.prog 7 #[] w fun e w' => e = .returned (.bool true) ∧ Pure w w' := by
  go_enter Try.func7, Try.ntmps7
  go_wp2_with fail
  refine (new_any w).mono ?_
  rintro e w1 ⟨rfl, rfl⟩
  have L1 := Lib.hid (line_new w)
  have P1 := Lib.hid ((Only.refl (fun _ => False) w).alloc (.cells #[.slice none 0 0] 50))
  generalize w.alloc (.cells #[.slice none 0 0] 50) = W1 at *
  go_wp2_with fail
  refine (add_yes _ _ [] (req 1) none 0 0 _ L1.out (by decide) (by simp)).mono ?_
  rintro e w2 ⟨v2, rfl, hl2, ho2, hat2⟩
  have P2 := Lib.hid (P1.out.trans ho2 (fun i hi e => by rcases e with e | e <;> first | omega | (simp [Value.ownBlock] at e)))
  have L2 := Lib.hid (show LineOf w2 w.heap.size v2 [fresh (req 1)] from hl2)
  clear hl2 ho2 hat2
  go_wp2_with fail
  refine (add_no _ v2 [fresh (req 1)] (req 1) none 0 0 _ L2.out (by decide)).mono ?_
  rintro e w3 ⟨rfl, hp3⟩
  have P3 := Lib.hid (Pure.then P2.out hp3)
  have L3 := Lib.hid (L2.out.pure hp3)
  clear hp3
  go_wp2_with fail
  refine (lineFirst_in _ v2 [fresh (req 1)] 0 (fresh (req 1)) _ L3.out rfl (by decide)).mono ?_
  rintro e w4 ⟨A4, c4, rfl, hp4, hs4, hq4⟩
  have P4 := Lib.hid (Pure.then P3.out hp4)
  have L4 := Lib.hid (L3.out.pure hp4)
  dsimp only [fresh, req, reqV, List.length_nil]
  have hp5 := (Only.refl (fun _ => False) w4).alloc (.cells #[.int .i64 1, .int .i64 0, .int .i64 0, .int .i64 0, .int .i64 0, .int .i64 (-1), .slice A4 0 c4] 28)
  have L5 := Lib.hid (L4.out.pure hp5)
  have P5 := Lib.hid (Pure.then P4.out hp5)
  clear hp4 hs4 hq4 hp5
  go_wp2_with fail
  refine (waits_any _ v2 [fresh (req 1)] _ L5.out).mono ?_
  rintro e w6 ⟨rfl, hp6⟩
  have P6 := Lib.hid (Pure.then P5.out hp6)
  clear hp6
  go_wp2_with fail
  go_ret
  exact ⟨rfl, P6.out⟩

end Go.Proofs.Ytmpomkejmokdlaa
