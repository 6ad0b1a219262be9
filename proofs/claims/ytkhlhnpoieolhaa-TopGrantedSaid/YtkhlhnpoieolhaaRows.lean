/-
  No cell of these rows narrows 'for every input' (looked for: loops, veiled, ifaces, maps, wideKeys, modest, calm, conditions, laid).
  DERIVED. THE GIVEN ROWS OF THIS SEAT. 5 by the template 'for every input the law returns true; each argument reads behind the call as it read before'; 0 by the template 'total and deterministic' (their statements: YtkhlhnpoieolhaaTotals.lean).
  GIVEN WITH THE SEED: the statements are not yours to turn. If you find one false, say at which input.
  Laid BY PROGRAM, IN A SANDBOX (cutbox-rows.mjs): the forced cells as the released guide's own fill.sh prints them over the translation 123045bcb1ca7839… (all of the seat's roots in one cut). By AI agents, Wed Nov 11 2026. No macro, syntax, notation, axiom, sorry.
-/
import Derived.Test.YtkhlhnpoieolhaaChecked
import GoSem.Claim
import GoSem.ClaimJoined
import GoSem.ClaimMapViews
import Derived.JoinedTies
import Derived.KernelRfl
namespace Go.Proofs.Ytkhlhnpoieolhaa
/- THE CELL 'sum', in the pinned program and in every row, IS THE sha256 OF THE DUMP (.gsa) THAT YtkhlhnpoieolhaaProg.lean LOADS. Nothing in Lean hashes anything: it is a label: what it is worth is what the hold of that sum in a sandbox is worth. -/
noncomputable def Try.pinned : Pinned := { name := "ytkhlhnpoieolhaa", sum := "123045bcb1ca783966a3a1724813c620d7d41d430f1fd88dadd442b31ccfc679", checked := Try.checked }
namespace Rows
def none {H : Type} : Left H := { results := [], args := [] }

/-- 'curfewtop.TopGranted': WHATEVER THE INPUT: true; the input reads as it did. -/
def topGrantedSpec : ChangeSpec := { name := "topGranted", fn := fun _ => fun
  | [d] => { results := [.lit (.bool true)], args := [d] }
  | _ => none }
def topGrantedRow : OpenClaim := { program := "ytkhlhnpoieolhaa", sum := "123045bcb1ca783966a3a1724813c620d7d41d430f1fd88dadd442b31ccfc679", func := "curfew/curfewtop.TopGranted", spec := "topGranted", unfollowed := true, recurses := true, apart := false }
def TopGrantedSaid : Prop := topGrantedRow.holds Try.pinned (OpenSpec.ofChange topGrantedSpec)

/-- ITS FALSE NEIGHBOUR: 'it returns false'. Refute it at one input. -/
def topGrantedWrong : ChangeSpec := { name := "topGranted", fn := fun _ => fun
  | [d] => { results := [.lit (.bool false)], args := [d] }
  | _ => none }
def TopGrantedWrongFalsely : Prop := topGrantedRow.holds Try.pinned (OpenSpec.ofChange topGrantedWrong)

/-- 'curfewtop.TopTaped': WHATEVER THE INPUT: true; the input reads as it did. -/
def topTapedSpec : ChangeSpec := { name := "topTaped", fn := fun _ => fun
  | [d1, d2] => { results := [.lit (.bool true)], args := [d1, d2] }
  | _ => none }
def topTapedRow : OpenClaim := { program := "ytkhlhnpoieolhaa", sum := "123045bcb1ca783966a3a1724813c620d7d41d430f1fd88dadd442b31ccfc679", func := "curfew/curfewtop.TopTaped", spec := "topTaped", unfollowed := true, recurses := true, apart := false }
def TopTapedSaid : Prop := topTapedRow.holds Try.pinned (OpenSpec.ofChange topTapedSpec)

/-- ITS FALSE NEIGHBOUR: 'it returns false'. Refute it at one input. -/
def topTapedWrong : ChangeSpec := { name := "topTaped", fn := fun _ => fun
  | [d1, d2] => { results := [.lit (.bool false)], args := [d1, d2] }
  | _ => none }
def TopTapedWrongFalsely : Prop := topTapedRow.holds Try.pinned (OpenSpec.ofChange topTapedWrong)

/-- 'curfewtop.TopChunked': WHATEVER THE INPUT: true; the input reads as it did. -/
def topChunkedSpec : ChangeSpec := { name := "topChunked", fn := fun _ => fun
  | [d1, d2, d3, d4] => { results := [.lit (.bool true)], args := [d1, d2, d3, d4] }
  | _ => none }
def topChunkedRow : OpenClaim := { program := "ytkhlhnpoieolhaa", sum := "123045bcb1ca783966a3a1724813c620d7d41d430f1fd88dadd442b31ccfc679", func := "curfew/curfewtop.TopChunked", spec := "topChunked", unfollowed := true, recurses := true, apart := false }
def TopChunkedSaid : Prop := topChunkedRow.holds Try.pinned (OpenSpec.ofChange topChunkedSpec)

/-- ITS FALSE NEIGHBOUR: 'it returns false'. Refute it at one input. -/
def topChunkedWrong : ChangeSpec := { name := "topChunked", fn := fun _ => fun
  | [d1, d2, d3, d4] => { results := [.lit (.bool false)], args := [d1, d2, d3, d4] }
  | _ => none }
def TopChunkedWrongFalsely : Prop := topChunkedRow.holds Try.pinned (OpenSpec.ofChange topChunkedWrong)

/-- 'curfewtop.TopSent': WHATEVER THE INPUT: true; the input reads as it did. -/
def topSentSpec : ChangeSpec := { name := "topSent", fn := fun _ => fun
  | [d] => { results := [.lit (.bool true)], args := [d] }
  | _ => none }
def topSentRow : OpenClaim := { program := "ytkhlhnpoieolhaa", sum := "123045bcb1ca783966a3a1724813c620d7d41d430f1fd88dadd442b31ccfc679", func := "curfew/curfewtop.TopSent", spec := "topSent", inPlace := ["internal/abi.NoEscape", "internal/bytealg.MakeNoZero"], unfollowed := true, recurses := true, apart := false }
def TopSentSaid : Prop := topSentRow.holds Try.pinned (OpenSpec.ofChange topSentSpec)

/-- ITS FALSE NEIGHBOUR: 'it returns false'. Refute it at one input. -/
def topSentWrong : ChangeSpec := { name := "topSent", fn := fun _ => fun
  | [d] => { results := [.lit (.bool false)], args := [d] }
  | _ => none }
def TopSentWrongFalsely : Prop := topSentRow.holds Try.pinned (OpenSpec.ofChange topSentWrong)

/-- 'curfewtop.TopFlowing': WHATEVER THE INPUT: true; the input reads as it did. -/
def topFlowingSpec : ChangeSpec := { name := "topFlowing", fn := fun _ => fun
  | [d] => { results := [.lit (.bool true)], args := [d] }
  | _ => none }
def topFlowingRow : OpenClaim := { program := "ytkhlhnpoieolhaa", sum := "123045bcb1ca783966a3a1724813c620d7d41d430f1fd88dadd442b31ccfc679", func := "curfew/curfewtop.TopFlowing", spec := "topFlowing", inPlace := ["internal/abi.NoEscape", "internal/bytealg.MakeNoZero", "slices.overlaps[curfew/api.Part]"], unfollowed := true, recurses := true, apart := false }
def TopFlowingSaid : Prop := topFlowingRow.holds Try.pinned (OpenSpec.ofChange topFlowingSpec)

/-- ITS FALSE NEIGHBOUR: 'it returns false'. Refute it at one input. -/
def topFlowingWrong : ChangeSpec := { name := "topFlowing", fn := fun _ => fun
  | [d] => { results := [.lit (.bool false)], args := [d] }
  | _ => none }
def TopFlowingWrongFalsely : Prop := topFlowingRow.holds Try.pinned (OpenSpec.ofChange topFlowingWrong)

/- THE SECOND FORM. 'bulk': how many values and letters a reading holds, each counted each time it is reached (what is shared counts as often as it is met; a slice's spare places count too). A statement '..UptoSaid' is the law's where the arguments, and the package variables that the reading takes, are together of bulk at most 1048576: NARROWER than '..Said'. Prove '..Said' where nothing that the law and all that it calls make is longer than what came in: it says more and counts as full. Else prove '..UptoSaid'. A law counts once. -/
mutual
def uptoBulk {H : Type} : DataW H → Nat
  | .lit (.string bytes) => bytes.length + 1
  | .lit _ => 1
  | .nil => 1
  | .ptr d => uptoBulk d + 1
  | .slice elems spare => uptoBulkAll elems + uptoBulkAll spare + 1
  | .agg parts => uptoBulkAll parts + 1
  | .iface _ d => uptoBulk d + 1
  | .map entries => uptoBulkEntries entries + 1
  | .held _ => 1
def uptoBulkAll {H : Type} : List (DataW H) → Nat
  | [] => 0
  | d :: r => uptoBulk d + uptoBulkAll r
def uptoBulkEntries {H : Type} : List (Lit × DataW H) → Nat
  | [] => 0
  | x :: r => uptoBulkEntry x + uptoBulkEntries r
def uptoBulkEntry {H : Type} : Lit × DataW H → Nat
  | (.string bytes, d) => bytes.length + uptoBulk d + 1
  | (_, d) => uptoBulk d + 1
 end
def uptoSmall : (H : Type) → List (DataW H) → Bool := fun _ ds => decide (uptoBulkAll ds ≤ 1048576)
def OpenSpec.upto (s : _root_.Go.ChangeSpec) : _root_.Go.OpenSpec := { _root_.Go.OpenSpec.ofChange s with cond := some uptoSmall }

/-- 'curfewtop.TopGranted', WHERE WHAT IT READS IS OF BULK AT MOST 1048576: true; the input reads as it did. -/
def topGrantedUptoRow : OpenClaim := { program := "ytkhlhnpoieolhaa", sum := "123045bcb1ca783966a3a1724813c620d7d41d430f1fd88dadd442b31ccfc679", func := "curfew/curfewtop.TopGranted", spec := "topGranted", unfollowed := true, recurses := true, apart := false, narrowed := true }
def TopGrantedUptoSaid : Prop := topGrantedUptoRow.holds Try.pinned (OpenSpec.upto topGrantedSpec)

/-- 'curfewtop.TopTaped', WHERE WHAT IT READS IS OF BULK AT MOST 1048576: true; the input reads as it did. -/
def topTapedUptoRow : OpenClaim := { program := "ytkhlhnpoieolhaa", sum := "123045bcb1ca783966a3a1724813c620d7d41d430f1fd88dadd442b31ccfc679", func := "curfew/curfewtop.TopTaped", spec := "topTaped", unfollowed := true, recurses := true, apart := false, narrowed := true }
def TopTapedUptoSaid : Prop := topTapedUptoRow.holds Try.pinned (OpenSpec.upto topTapedSpec)

/-- 'curfewtop.TopChunked', WHERE WHAT IT READS IS OF BULK AT MOST 1048576: true; the input reads as it did. -/
def topChunkedUptoRow : OpenClaim := { program := "ytkhlhnpoieolhaa", sum := "123045bcb1ca783966a3a1724813c620d7d41d430f1fd88dadd442b31ccfc679", func := "curfew/curfewtop.TopChunked", spec := "topChunked", unfollowed := true, recurses := true, apart := false, narrowed := true }
def TopChunkedUptoSaid : Prop := topChunkedUptoRow.holds Try.pinned (OpenSpec.upto topChunkedSpec)

/-- 'curfewtop.TopSent', WHERE WHAT IT READS IS OF BULK AT MOST 1048576: true; the input reads as it did. -/
def topSentUptoRow : OpenClaim := { program := "ytkhlhnpoieolhaa", sum := "123045bcb1ca783966a3a1724813c620d7d41d430f1fd88dadd442b31ccfc679", func := "curfew/curfewtop.TopSent", spec := "topSent", inPlace := ["internal/abi.NoEscape", "internal/bytealg.MakeNoZero"], unfollowed := true, recurses := true, apart := false, narrowed := true }
def TopSentUptoSaid : Prop := topSentUptoRow.holds Try.pinned (OpenSpec.upto topSentSpec)

/-- 'curfewtop.TopFlowing', WHERE WHAT IT READS IS OF BULK AT MOST 1048576: true; the input reads as it did. -/
def topFlowingUptoRow : OpenClaim := { program := "ytkhlhnpoieolhaa", sum := "123045bcb1ca783966a3a1724813c620d7d41d430f1fd88dadd442b31ccfc679", func := "curfew/curfewtop.TopFlowing", spec := "topFlowing", inPlace := ["internal/abi.NoEscape", "internal/bytealg.MakeNoZero", "slices.overlaps[curfew/api.Part]"], unfollowed := true, recurses := true, apart := false, narrowed := true }
def TopFlowingUptoSaid : Prop := topFlowingUptoRow.holds Try.pinned (OpenSpec.upto topFlowingSpec)

end Rows
end Go.Proofs.Ytkhlhnpoieolhaa
