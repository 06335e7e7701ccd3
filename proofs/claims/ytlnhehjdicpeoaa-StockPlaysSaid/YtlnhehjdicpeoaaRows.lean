/-
  No cell of these rows narrows 'for every input' (looked for: loops, veiled, ifaces, maps, wideKeys, modest, calm, conditions, laid).
  DERIVED. THE GIVEN ROWS OF THIS SEAT. 5 by the template 'for every input the law returns true; each argument reads behind the call as it read before'; 0 by the template 'total and deterministic' (their statements: YtlnhehjdicpeoaaTotals.lean).
  GIVEN WITH THE SEED: the statements are not yours to turn. If you find one false, say at which input.
  Laid BY PROGRAM, IN A SANDBOX (cutbox-rows.mjs): the forced cells as the released guide's own fill.sh prints them over the translation 5f538d679b6ee004… (all of the seat's roots in one cut). By AI agents, Wed Nov 11 2026. No macro, syntax, notation, axiom, sorry.
-/
import Derived.Test.YtlnhehjdicpeoaaChecked
import GoSem.Claim
import GoSem.ClaimJoined
import GoSem.ClaimMapViews
import Derived.JoinedTies
import Derived.KernelRfl
namespace Go.Proofs.Ytlnhehjdicpeoaa
/- THE CELL 'sum', in the pinned program and in every row, IS THE sha256 OF THE DUMP (.gsa) THAT YtlnhehjdicpeoaaProg.lean LOADS. Nothing in Lean hashes anything: it is a label: what it is worth is what the hold of that sum in a sandbox is worth. -/
noncomputable def Try.pinned : Pinned := { name := "ytlnhehjdicpeoaa", sum := "5f538d679b6ee004381dbc5626add0e94a032df84d6baaa77a569dba58b551a9", checked := Try.checked }
namespace Rows
def none {H : Type} : Left H := { results := [], args := [] }

/-- 'spolaw9.StockSides': WHATEVER THE INPUT: true; the input reads as it did. -/
def stockSidesSpec : ChangeSpec := { name := "stockSides", fn := fun _ => fun
  | [d1, d2, d3] => { results := [.lit (.bool true)], args := [d1, d2, d3] }
  | _ => none }
def stockSidesRow : OpenClaim := { program := "ytlnhehjdicpeoaa", sum := "5f538d679b6ee004381dbc5626add0e94a032df84d6baaa77a569dba58b551a9", func := "spolia/spolaw9.StockSides", spec := "stockSides", apart := false }
def StockSidesSaid : Prop := stockSidesRow.holds Try.pinned (OpenSpec.ofChange stockSidesSpec)

/-- ITS FALSE NEIGHBOUR: 'it returns false'. Refute it at one input. -/
def stockSidesWrong : ChangeSpec := { name := "stockSides", fn := fun _ => fun
  | [d1, d2, d3] => { results := [.lit (.bool false)], args := [d1, d2, d3] }
  | _ => none }
def StockSidesWrongFalsely : Prop := stockSidesRow.holds Try.pinned (OpenSpec.ofChange stockSidesWrong)

/-- 'spolaw9.StockTurns': WHATEVER THE INPUT: true; the input reads as it did. -/
def stockTurnsSpec : ChangeSpec := { name := "stockTurns", fn := fun _ => fun
  | [d1, d2] => { results := [.lit (.bool true)], args := [d1, d2] }
  | _ => none }
def stockTurnsRow : OpenClaim := { program := "ytlnhehjdicpeoaa", sum := "5f538d679b6ee004381dbc5626add0e94a032df84d6baaa77a569dba58b551a9", func := "spolia/spolaw9.StockTurns", spec := "stockTurns", apart := false }
def StockTurnsSaid : Prop := stockTurnsRow.holds Try.pinned (OpenSpec.ofChange stockTurnsSpec)

/-- ITS FALSE NEIGHBOUR: 'it returns false'. Refute it at one input. -/
def stockTurnsWrong : ChangeSpec := { name := "stockTurns", fn := fun _ => fun
  | [d1, d2] => { results := [.lit (.bool false)], args := [d1, d2] }
  | _ => none }
def StockTurnsWrongFalsely : Prop := stockTurnsRow.holds Try.pinned (OpenSpec.ofChange stockTurnsWrong)

/-- 'spolaw9.StockPlays': WHATEVER THE INPUT: true; the input reads as it did. -/
def stockPlaysSpec : ChangeSpec := { name := "stockPlays", fn := fun _ => fun
  | [d1, d2, d3] => { results := [.lit (.bool true)], args := [d1, d2, d3] }
  | _ => none }
def stockPlaysRow : OpenClaim := { program := "ytlnhehjdicpeoaa", sum := "5f538d679b6ee004381dbc5626add0e94a032df84d6baaa77a569dba58b551a9", func := "spolia/spolaw9.StockPlays", spec := "stockPlays", apart := false }
def StockPlaysSaid : Prop := stockPlaysRow.holds Try.pinned (OpenSpec.ofChange stockPlaysSpec)

/-- ITS FALSE NEIGHBOUR: 'it returns false'. Refute it at one input. -/
def stockPlaysWrong : ChangeSpec := { name := "stockPlays", fn := fun _ => fun
  | [d1, d2, d3] => { results := [.lit (.bool false)], args := [d1, d2, d3] }
  | _ => none }
def StockPlaysWrongFalsely : Prop := stockPlaysRow.holds Try.pinned (OpenSpec.ofChange stockPlaysWrong)

/-- 'spolaw9.StockOrder': WHATEVER THE INPUT: true; the input reads as it did. -/
def stockOrderSpec : ChangeSpec := { name := "stockOrder", fn := fun _ => fun
  | [d1, d2] => { results := [.lit (.bool true)], args := [d1, d2] }
  | _ => none }
def stockOrderRow : OpenClaim := { program := "ytlnhehjdicpeoaa", sum := "5f538d679b6ee004381dbc5626add0e94a032df84d6baaa77a569dba58b551a9", func := "spolia/spolaw9.StockOrder", spec := "stockOrder", apart := false }
def StockOrderSaid : Prop := stockOrderRow.holds Try.pinned (OpenSpec.ofChange stockOrderSpec)

/-- ITS FALSE NEIGHBOUR: 'it returns false'. Refute it at one input. -/
def stockOrderWrong : ChangeSpec := { name := "stockOrder", fn := fun _ => fun
  | [d1, d2] => { results := [.lit (.bool false)], args := [d1, d2] }
  | _ => none }
def StockOrderWrongFalsely : Prop := stockOrderRow.holds Try.pinned (OpenSpec.ofChange stockOrderWrong)

/-- 'spolaw9.StockBounds': WHATEVER THE INPUT: true; the input reads as it did. -/
def stockBoundsSpec : ChangeSpec := { name := "stockBounds", fn := fun _ => fun
  | [d1, d2] => { results := [.lit (.bool true)], args := [d1, d2] }
  | _ => none }
def stockBoundsRow : OpenClaim := { program := "ytlnhehjdicpeoaa", sum := "5f538d679b6ee004381dbc5626add0e94a032df84d6baaa77a569dba58b551a9", func := "spolia/spolaw9.StockBounds", spec := "stockBounds", apart := false }
def StockBoundsSaid : Prop := stockBoundsRow.holds Try.pinned (OpenSpec.ofChange stockBoundsSpec)

/-- ITS FALSE NEIGHBOUR: 'it returns false'. Refute it at one input. -/
def stockBoundsWrong : ChangeSpec := { name := "stockBounds", fn := fun _ => fun
  | [d1, d2] => { results := [.lit (.bool false)], args := [d1, d2] }
  | _ => none }
def StockBoundsWrongFalsely : Prop := stockBoundsRow.holds Try.pinned (OpenSpec.ofChange stockBoundsWrong)

/- THE SECOND FORM. 'bulk': how many values and letters a reading holds, each counted each time it is reached (what is shared counts as often as it is met; a slice's spare places count too). A statement '..UptoSaid' is the law's where the arguments, and the package variables that the reading takes, are together of bulk at most 1048576: NARROWER than '..Said'. Prove '..Said' where nothing that the law and all that it calls make is longer than what came in: it says more and counts as full. Else prove '..UptoSaid'. A law counts once. -/
mutual
def uptoBulk {H : Type} : DataW H → Nat
  | .lit (.string bytes) => bytes.length + 1
  | .lit _ => 1
  | .nil => 1
  | .ptr d => uptoBulk d + 1
  | .slice elems spare => uptoBulkAll elems + uptoBulkAll spare + 1
  | .agg parts => uptoBulkAll parts + 1
  | .iface _ d => uptoBulk d + 1
  | .map entries => uptoBulkEntries entries + 1
  | .held _ => 1
def uptoBulkAll {H : Type} : List (DataW H) → Nat
  | [] => 0
  | d :: r => uptoBulk d + uptoBulkAll r
def uptoBulkEntries {H : Type} : List (Lit × DataW H) → Nat
  | [] => 0
  | x :: r => uptoBulkEntry x + uptoBulkEntries r
def uptoBulkEntry {H : Type} : Lit × DataW H → Nat
  | (.string bytes, d) => bytes.length + uptoBulk d + 1
  | (_, d) => uptoBulk d + 1
 end
def uptoSmall : (H : Type) → List (DataW H) → Bool := fun _ ds => decide (uptoBulkAll ds ≤ 1048576)
def OpenSpec.upto (s : _root_.Go.ChangeSpec) : _root_.Go.OpenSpec := { _root_.Go.OpenSpec.ofChange s with cond := some uptoSmall }

/-- 'spolaw9.StockSides', WHERE WHAT IT READS IS OF BULK AT MOST 1048576: true; the input reads as it did. -/
def stockSidesUptoRow : OpenClaim := { program := "ytlnhehjdicpeoaa", sum := "5f538d679b6ee004381dbc5626add0e94a032df84d6baaa77a569dba58b551a9", func := "spolia/spolaw9.StockSides", spec := "stockSides", apart := false, narrowed := true }
def StockSidesUptoSaid : Prop := stockSidesUptoRow.holds Try.pinned (OpenSpec.upto stockSidesSpec)

/-- 'spolaw9.StockTurns', WHERE WHAT IT READS IS OF BULK AT MOST 1048576: true; the input reads as it did. -/
def stockTurnsUptoRow : OpenClaim := { program := "ytlnhehjdicpeoaa", sum := "5f538d679b6ee004381dbc5626add0e94a032df84d6baaa77a569dba58b551a9", func := "spolia/spolaw9.StockTurns", spec := "stockTurns", apart := false, narrowed := true }
def StockTurnsUptoSaid : Prop := stockTurnsUptoRow.holds Try.pinned (OpenSpec.upto stockTurnsSpec)

/-- 'spolaw9.StockPlays', WHERE WHAT IT READS IS OF BULK AT MOST 1048576: true; the input reads as it did. -/
def stockPlaysUptoRow : OpenClaim := { program := "ytlnhehjdicpeoaa", sum := "5f538d679b6ee004381dbc5626add0e94a032df84d6baaa77a569dba58b551a9", func := "spolia/spolaw9.StockPlays", spec := "stockPlays", apart := false, narrowed := true }
def StockPlaysUptoSaid : Prop := stockPlaysUptoRow.holds Try.pinned (OpenSpec.upto stockPlaysSpec)

/-- 'spolaw9.StockOrder', WHERE WHAT IT READS IS OF BULK AT MOST 1048576: true; the input reads as it did. -/
def stockOrderUptoRow : OpenClaim := { program := "ytlnhehjdicpeoaa", sum := "5f538d679b6ee004381dbc5626add0e94a032df84d6baaa77a569dba58b551a9", func := "spolia/spolaw9.StockOrder", spec := "stockOrder", apart := false, narrowed := true }
def StockOrderUptoSaid : Prop := stockOrderUptoRow.holds Try.pinned (OpenSpec.upto stockOrderSpec)

/-- 'spolaw9.StockBounds', WHERE WHAT IT READS IS OF BULK AT MOST 1048576: true; the input reads as it did. -/
def stockBoundsUptoRow : OpenClaim := { program := "ytlnhehjdicpeoaa", sum := "5f538d679b6ee004381dbc5626add0e94a032df84d6baaa77a569dba58b551a9", func := "spolia/spolaw9.StockBounds", spec := "stockBounds", apart := false, narrowed := true }
def StockBoundsUptoSaid : Prop := stockBoundsUptoRow.holds Try.pinned (OpenSpec.upto stockBoundsSpec)

end Rows
end Go.Proofs.Ytlnhehjdicpeoaa
