/-
  No cell of these rows narrows 'for every input' (looked for: loops, veiled, ifaces, maps, wideKeys, modest, calm, conditions, laid).
  DERIVED. THE GIVEN ROWS OF THIS SEAT. 4 by the template 'for every input the law returns true; each argument reads behind the call as it read before'; 0 by the template 'total and deterministic' (their statements: YtdlcfgpmjhcgdaaTotals.lean).
  GIVEN WITH THE SEED: the statements are not yours to turn. If you find one false, say at which input.
  Laid BY PROGRAM, IN A SANDBOX (cutbox-rows.mjs): the forced cells as the released guide's own fill.sh prints them over the translation 9663361f4cbdf769… (all of the seat's roots in one cut). By AI agents, Wed Nov 11 2026. No macro, syntax, notation, axiom, sorry.
-/
import Derived.Test.YtdlcfgpmjhcgdaaChecked
import GoSem.Claim
import GoSem.ClaimJoined
import GoSem.ClaimMapViews
import Derived.JoinedTies
import Derived.KernelRfl
namespace Go.Proofs.Ytdlcfgpmjhcgdaa
/- THE CELL 'sum', in the pinned program and in every row, IS THE sha256 OF THE DUMP (.gsa) THAT YtdlcfgpmjhcgdaaProg.lean LOADS. Nothing in Lean hashes anything: it is a label: what it is worth is what the hold of that sum in a sandbox is worth. -/
noncomputable def Try.pinned : Pinned := { name := "ytdlcfgpmjhcgdaa", sum := "9663361f4cbdf76973eea338595cb05e2164d3b5c8890bfa299807f45611d2d0", checked := Try.checked }
namespace Rows
def none {H : Type} : Left H := { results := [], args := [] }

/-- 'spolaw5.AreaFrags': WHATEVER THE INPUT: true; the input reads as it did. -/
def areaFragsSpec : ChangeSpec := { name := "areaFrags", fn := fun _ => fun
  | [d1, d2] => { results := [.lit (.bool true)], args := [d1, d2] }
  | _ => none }
def areaFragsRow : OpenClaim := { program := "ytdlcfgpmjhcgdaa", sum := "9663361f4cbdf76973eea338595cb05e2164d3b5c8890bfa299807f45611d2d0", func := "spolia/spolaw5.AreaFrags", spec := "areaFrags", unfollowed := true, recurses := true, apart := false }
def AreaFragsSaid : Prop := areaFragsRow.holds Try.pinned (OpenSpec.ofChange areaFragsSpec)

/-- ITS FALSE NEIGHBOUR: 'it returns false'. Refute it at one input. -/
def areaFragsWrong : ChangeSpec := { name := "areaFrags", fn := fun _ => fun
  | [d1, d2] => { results := [.lit (.bool false)], args := [d1, d2] }
  | _ => none }
def AreaFragsWrongFalsely : Prop := areaFragsRow.holds Try.pinned (OpenSpec.ofChange areaFragsWrong)

/-- 'spolaw5.AreaTells': WHATEVER THE INPUT: true; the input reads as it did. -/
def areaTellsSpec : ChangeSpec := { name := "areaTells", fn := fun _ => fun
  | [d1, d2, d3, d4] => { results := [.lit (.bool true)], args := [d1, d2, d3, d4] }
  | _ => none }
def areaTellsRow : OpenClaim := { program := "ytdlcfgpmjhcgdaa", sum := "9663361f4cbdf76973eea338595cb05e2164d3b5c8890bfa299807f45611d2d0", func := "spolia/spolaw5.AreaTells", spec := "areaTells", unfollowed := true, recurses := true, apart := false }
def AreaTellsSaid : Prop := areaTellsRow.holds Try.pinned (OpenSpec.ofChange areaTellsSpec)

/-- ITS FALSE NEIGHBOUR: 'it returns false'. Refute it at one input. -/
def areaTellsWrong : ChangeSpec := { name := "areaTells", fn := fun _ => fun
  | [d1, d2, d3, d4] => { results := [.lit (.bool false)], args := [d1, d2, d3, d4] }
  | _ => none }
def AreaTellsWrongFalsely : Prop := areaTellsRow.holds Try.pinned (OpenSpec.ofChange areaTellsWrong)

/-- 'spolaw5.AreaEach': WHATEVER THE INPUT: true; the input reads as it did. -/
def areaEachSpec : ChangeSpec := { name := "areaEach", fn := fun _ => fun
  | [d] => { results := [.lit (.bool true)], args := [d] }
  | _ => none }
def areaEachRow : OpenClaim := { program := "ytdlcfgpmjhcgdaa", sum := "9663361f4cbdf76973eea338595cb05e2164d3b5c8890bfa299807f45611d2d0", func := "spolia/spolaw5.AreaEach", spec := "areaEach", unfollowed := true, recurses := true, apart := false }
def AreaEachSaid : Prop := areaEachRow.holds Try.pinned (OpenSpec.ofChange areaEachSpec)

/-- ITS FALSE NEIGHBOUR: 'it returns false'. Refute it at one input. -/
def areaEachWrong : ChangeSpec := { name := "areaEach", fn := fun _ => fun
  | [d] => { results := [.lit (.bool false)], args := [d] }
  | _ => none }
def AreaEachWrongFalsely : Prop := areaEachRow.holds Try.pinned (OpenSpec.ofChange areaEachWrong)

/-- 'spolaw5.AreaEdges': WHATEVER THE INPUT: true; the input reads as it did. -/
def areaEdgesSpec : ChangeSpec := { name := "areaEdges", fn := fun _ => fun
  | [d] => { results := [.lit (.bool true)], args := [d] }
  | _ => none }
def areaEdgesRow : OpenClaim := { program := "ytdlcfgpmjhcgdaa", sum := "9663361f4cbdf76973eea338595cb05e2164d3b5c8890bfa299807f45611d2d0", func := "spolia/spolaw5.AreaEdges", spec := "areaEdges", unfollowed := true, recurses := true, apart := false }
def AreaEdgesSaid : Prop := areaEdgesRow.holds Try.pinned (OpenSpec.ofChange areaEdgesSpec)

/-- ITS FALSE NEIGHBOUR: 'it returns false'. Refute it at one input. -/
def areaEdgesWrong : ChangeSpec := { name := "areaEdges", fn := fun _ => fun
  | [d] => { results := [.lit (.bool false)], args := [d] }
  | _ => none }
def AreaEdgesWrongFalsely : Prop := areaEdgesRow.holds Try.pinned (OpenSpec.ofChange areaEdgesWrong)

/- THE SECOND FORM. 'bulk': how many values and letters a reading holds, each counted each time it is reached (what is shared counts as often as it is met; a slice's spare places count too). A statement '..UptoSaid' is the law's where the arguments, and the package variables that the reading takes, are together of bulk at most 1048576: NARROWER than '..Said'. Prove '..Said' where nothing that the law and all that it calls make is longer than what came in: it says more and counts as full. Else prove '..UptoSaid'. A law counts once. -/
mutual
def uptoBulk {H : Type} : DataW H → Nat
  | .lit (.string bytes) => bytes.length + 1
  | .lit _ => 1
  | .nil => 1
  | .ptr d => uptoBulk d + 1
  | .slice elems spare => uptoBulkAll elems + uptoBulkAll spare + 1
  | .agg parts => uptoBulkAll parts + 1
  | .iface _ d => uptoBulk d + 1
  | .map entries => uptoBulkEntries entries + 1
  | .held _ => 1
def uptoBulkAll {H : Type} : List (DataW H) → Nat
  | [] => 0
  | d :: r => uptoBulk d + uptoBulkAll r
def uptoBulkEntries {H : Type} : List (Lit × DataW H) → Nat
  | [] => 0
  | x :: r => uptoBulkEntry x + uptoBulkEntries r
def uptoBulkEntry {H : Type} : Lit × DataW H → Nat
  | (.string bytes, d) => bytes.length + uptoBulk d + 1
  | (_, d) => uptoBulk d + 1
 end
def uptoSmall : (H : Type) → List (DataW H) → Bool := fun _ ds => decide (uptoBulkAll ds ≤ 1048576)
def OpenSpec.upto (s : _root_.Go.ChangeSpec) : _root_.Go.OpenSpec := { _root_.Go.OpenSpec.ofChange s with cond := some uptoSmall }

/-- 'spolaw5.AreaFrags', WHERE WHAT IT READS IS OF BULK AT MOST 1048576: true; the input reads as it did. -/
def areaFragsUptoRow : OpenClaim := { program := "ytdlcfgpmjhcgdaa", sum := "9663361f4cbdf76973eea338595cb05e2164d3b5c8890bfa299807f45611d2d0", func := "spolia/spolaw5.AreaFrags", spec := "areaFrags", unfollowed := true, recurses := true, apart := false, narrowed := true }
def AreaFragsUptoSaid : Prop := areaFragsUptoRow.holds Try.pinned (OpenSpec.upto areaFragsSpec)

/-- 'spolaw5.AreaTells', WHERE WHAT IT READS IS OF BULK AT MOST 1048576: true; the input reads as it did. -/
def areaTellsUptoRow : OpenClaim := { program := "ytdlcfgpmjhcgdaa", sum := "9663361f4cbdf76973eea338595cb05e2164d3b5c8890bfa299807f45611d2d0", func := "spolia/spolaw5.AreaTells", spec := "areaTells", unfollowed := true, recurses := true, apart := false, narrowed := true }
def AreaTellsUptoSaid : Prop := areaTellsUptoRow.holds Try.pinned (OpenSpec.upto areaTellsSpec)

/-- 'spolaw5.AreaEach', WHERE WHAT IT READS IS OF BULK AT MOST 1048576: true; the input reads as it did. -/
def areaEachUptoRow : OpenClaim := { program := "ytdlcfgpmjhcgdaa", sum := "9663361f4cbdf76973eea338595cb05e2164d3b5c8890bfa299807f45611d2d0", func := "spolia/spolaw5.AreaEach", spec := "areaEach", unfollowed := true, recurses := true, apart := false, narrowed := true }
def AreaEachUptoSaid : Prop := areaEachUptoRow.holds Try.pinned (OpenSpec.upto areaEachSpec)

/-- 'spolaw5.AreaEdges', WHERE WHAT IT READS IS OF BULK AT MOST 1048576: true; the input reads as it did. -/
def areaEdgesUptoRow : OpenClaim := { program := "ytdlcfgpmjhcgdaa", sum := "9663361f4cbdf76973eea338595cb05e2164d3b5c8890bfa299807f45611d2d0", func := "spolia/spolaw5.AreaEdges", spec := "areaEdges", unfollowed := true, recurses := true, apart := false, narrowed := true }
def AreaEdgesUptoSaid : Prop := areaEdgesUptoRow.holds Try.pinned (OpenSpec.upto areaEdgesSpec)

end Rows
end Go.Proofs.Ytdlcfgpmjhcgdaa
