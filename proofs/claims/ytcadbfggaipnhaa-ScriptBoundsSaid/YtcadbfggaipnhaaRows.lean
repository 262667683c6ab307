/-
  No cell of these rows narrows 'for every input' (looked for: loops, veiled, ifaces, maps, wideKeys, modest, calm, conditions, laid).
  DERIVED. THE GIVEN ROWS OF THIS SEAT. 7 by the template 'for every input the law returns true; each argument reads behind the call as it read before'; 0 by the template 'total and deterministic' (their statements: YtcadbfggaipnhaaTotals.lean).
  GIVEN WITH THE SEED: the statements are not yours to turn. If you find one false, say at which input.
  Laid BY PROGRAM, IN A SANDBOX (cutbox-rows.mjs): the forced cells as the released guide's own fill.sh prints them over the translation 0ddc9f31f3406f23… (all of the seat's roots in one cut). By AI agents, Wed Nov 11 2026. No macro, syntax, notation, axiom, sorry.
-/
import Derived.Test.YtcadbfggaipnhaaChecked
import GoSem.Claim
import GoSem.ClaimJoined
import GoSem.ClaimMapViews
import Derived.JoinedTies
import Derived.KernelRfl
namespace Go.Proofs.Ytcadbfggaipnhaa
/- THE CELL 'sum', in the pinned program and in every row, IS THE sha256 OF THE DUMP (.gsa) THAT YtcadbfggaipnhaaProg.lean LOADS. Nothing in Lean hashes anything: it is a label: what it is worth is what the hold of that sum in a sandbox is worth. -/
noncomputable def Try.pinned : Pinned := { name := "ytcadbfggaipnhaa", sum := "0ddc9f31f3406f2347dfa0aecd12802114c6e0482d41a832e8b6327b326092d3", checked := Try.checked }
namespace Rows
def none {H : Type} : Left H := { results := [], args := [] }

/-- 'outriderlaw25.ScriptBounds': WHATEVER THE INPUT: true; the input reads as it did. -/
def scriptBoundsSpec : ChangeSpec := { name := "scriptBounds", fn := fun _ => fun
  | [d1, d2] => { results := [.lit (.bool true)], args := [d1, d2] }
  | _ => none }
def scriptBoundsRow : OpenClaim := { program := "ytcadbfggaipnhaa", sum := "0ddc9f31f3406f2347dfa0aecd12802114c6e0482d41a832e8b6327b326092d3", func := "outrider/outriderlaw25.ScriptBounds", spec := "scriptBounds", unfollowed := true, recurses := true, apart := false }
def ScriptBoundsSaid : Prop := scriptBoundsRow.holds Try.pinned (OpenSpec.ofChange scriptBoundsSpec)

/-- ITS FALSE NEIGHBOUR: 'it returns false'. Refute it at one input. -/
def scriptBoundsWrong : ChangeSpec := { name := "scriptBounds", fn := fun _ => fun
  | [d1, d2] => { results := [.lit (.bool false)], args := [d1, d2] }
  | _ => none }
def ScriptBoundsWrongFalsely : Prop := scriptBoundsRow.holds Try.pinned (OpenSpec.ofChange scriptBoundsWrong)

/-- 'outriderlaw21.VerPlays': WHATEVER THE INPUT: true; the input reads as it did. -/
def verPlaysSpec : ChangeSpec := { name := "verPlays", fn := fun _ => fun
  | [d1, d2, d3] => { results := [.lit (.bool true)], args := [d1, d2, d3] }
  | _ => none }
def verPlaysRow : OpenClaim := { program := "ytcadbfggaipnhaa", sum := "0ddc9f31f3406f2347dfa0aecd12802114c6e0482d41a832e8b6327b326092d3", func := "outrider/outriderlaw21.VerPlays", spec := "verPlays", unfollowed := true, recurses := true, apart := false }
def VerPlaysSaid : Prop := verPlaysRow.holds Try.pinned (OpenSpec.ofChange verPlaysSpec)

/-- ITS FALSE NEIGHBOUR: 'it returns false'. Refute it at one input. -/
def verPlaysWrong : ChangeSpec := { name := "verPlays", fn := fun _ => fun
  | [d1, d2, d3] => { results := [.lit (.bool false)], args := [d1, d2, d3] }
  | _ => none }
def VerPlaysWrongFalsely : Prop := verPlaysRow.holds Try.pinned (OpenSpec.ofChange verPlaysWrong)

/-- 'outriderlaw27.TraceCuts': WHATEVER THE INPUT: true; the input reads as it did. -/
def traceCutsSpec : ChangeSpec := { name := "traceCuts", fn := fun _ => fun
  | [d1, d2, d3] => { results := [.lit (.bool true)], args := [d1, d2, d3] }
  | _ => none }
def traceCutsRow : OpenClaim := { program := "ytcadbfggaipnhaa", sum := "0ddc9f31f3406f2347dfa0aecd12802114c6e0482d41a832e8b6327b326092d3", func := "outrider/outriderlaw27.TraceCuts", spec := "traceCuts", unfollowed := true, recurses := true, apart := false }
def TraceCutsSaid : Prop := traceCutsRow.holds Try.pinned (OpenSpec.ofChange traceCutsSpec)

/-- ITS FALSE NEIGHBOUR: 'it returns false'. Refute it at one input. -/
def traceCutsWrong : ChangeSpec := { name := "traceCuts", fn := fun _ => fun
  | [d1, d2, d3] => { results := [.lit (.bool false)], args := [d1, d2, d3] }
  | _ => none }
def TraceCutsWrongFalsely : Prop := traceCutsRow.holds Try.pinned (OpenSpec.ofChange traceCutsWrong)

/-- 'outriderlaw27.TraceTrue': WHATEVER THE INPUT: true; the input reads as it did. -/
def traceTrueSpec : ChangeSpec := { name := "traceTrue", fn := fun _ => fun
  | [d1, d2] => { results := [.lit (.bool true)], args := [d1, d2] }
  | _ => none }
def traceTrueRow : OpenClaim := { program := "ytcadbfggaipnhaa", sum := "0ddc9f31f3406f2347dfa0aecd12802114c6e0482d41a832e8b6327b326092d3", func := "outrider/outriderlaw27.TraceTrue", spec := "traceTrue", unfollowed := true, recurses := true, apart := false }
def TraceTrueSaid : Prop := traceTrueRow.holds Try.pinned (OpenSpec.ofChange traceTrueSpec)

/-- ITS FALSE NEIGHBOUR: 'it returns false'. Refute it at one input. -/
def traceTrueWrong : ChangeSpec := { name := "traceTrue", fn := fun _ => fun
  | [d1, d2] => { results := [.lit (.bool false)], args := [d1, d2] }
  | _ => none }
def TraceTrueWrongFalsely : Prop := traceTrueRow.holds Try.pinned (OpenSpec.ofChange traceTrueWrong)

/-- 'outriderlaw19.DepSure': WHATEVER THE INPUT: true; the input reads as it did. -/
def depSureSpec : ChangeSpec := { name := "depSure", fn := fun _ => fun
  | [d1, d2, d3] => { results := [.lit (.bool true)], args := [d1, d2, d3] }
  | _ => none }
def depSureRow : OpenClaim := { program := "ytcadbfggaipnhaa", sum := "0ddc9f31f3406f2347dfa0aecd12802114c6e0482d41a832e8b6327b326092d3", func := "outrider/outriderlaw19.DepSure", spec := "depSure", unfollowed := true, recurses := true, apart := false }
def DepSureSaid : Prop := depSureRow.holds Try.pinned (OpenSpec.ofChange depSureSpec)

/-- ITS FALSE NEIGHBOUR: 'it returns false'. Refute it at one input. -/
def depSureWrong : ChangeSpec := { name := "depSure", fn := fun _ => fun
  | [d1, d2, d3] => { results := [.lit (.bool false)], args := [d1, d2, d3] }
  | _ => none }
def DepSureWrongFalsely : Prop := depSureRow.holds Try.pinned (OpenSpec.ofChange depSureWrong)

/-- 'outriderlaw29.FlowLists': WHATEVER THE INPUT: true; the input reads as it did. -/
def flowListsSpec : ChangeSpec := { name := "flowLists", fn := fun _ => fun
  | [d] => { results := [.lit (.bool true)], args := [d] }
  | _ => none }
def flowListsRow : OpenClaim := { program := "ytcadbfggaipnhaa", sum := "0ddc9f31f3406f2347dfa0aecd12802114c6e0482d41a832e8b6327b326092d3", func := "outrider/outriderlaw29.FlowLists", spec := "flowLists", recurses := true, apart := false }
def FlowListsSaid : Prop := flowListsRow.holds Try.pinned (OpenSpec.ofChange flowListsSpec)

/-- ITS FALSE NEIGHBOUR: 'it returns false'. Refute it at one input. -/
def flowListsWrong : ChangeSpec := { name := "flowLists", fn := fun _ => fun
  | [d] => { results := [.lit (.bool false)], args := [d] }
  | _ => none }
def FlowListsWrongFalsely : Prop := flowListsRow.holds Try.pinned (OpenSpec.ofChange flowListsWrong)

/-- 'outriderlaw29.FlowChains': WHATEVER THE INPUT: true; the input reads as it did. -/
def flowChainsSpec : ChangeSpec := { name := "flowChains", fn := fun _ => fun
  | [d1, d2] => { results := [.lit (.bool true)], args := [d1, d2] }
  | _ => none }
def flowChainsRow : OpenClaim := { program := "ytcadbfggaipnhaa", sum := "0ddc9f31f3406f2347dfa0aecd12802114c6e0482d41a832e8b6327b326092d3", func := "outrider/outriderlaw29.FlowChains", spec := "flowChains", recurses := true, apart := false }
def FlowChainsSaid : Prop := flowChainsRow.holds Try.pinned (OpenSpec.ofChange flowChainsSpec)

/-- ITS FALSE NEIGHBOUR: 'it returns false'. Refute it at one input. -/
def flowChainsWrong : ChangeSpec := { name := "flowChains", fn := fun _ => fun
  | [d1, d2] => { results := [.lit (.bool false)], args := [d1, d2] }
  | _ => none }
def FlowChainsWrongFalsely : Prop := flowChainsRow.holds Try.pinned (OpenSpec.ofChange flowChainsWrong)

/- THE SECOND FORM. 'bulk': how many values and letters a reading holds, each counted each time it is reached (what is shared counts as often as it is met; a slice's spare places count too). A statement '..UptoSaid' is the law's where the arguments, and the package variables that the reading takes, are together of bulk at most 1048576: NARROWER than '..Said'. Prove '..Said' where nothing that the law and all that it calls make is longer than what came in: it says more and counts as full. Else prove '..UptoSaid'. A law counts once. -/
mutual
def uptoBulk {H : Type} : DataW H → Nat
  | .lit (.string bytes) => bytes.length + 1
  | .lit _ => 1
  | .nil => 1
  | .ptr d => uptoBulk d + 1
  | .slice elems spare => uptoBulkAll elems + uptoBulkAll spare + 1
  | .agg parts => uptoBulkAll parts + 1
  | .iface _ d => uptoBulk d + 1
  | .map entries => uptoBulkEntries entries + 1
  | .held _ => 1
def uptoBulkAll {H : Type} : List (DataW H) → Nat
  | [] => 0
  | d :: r => uptoBulk d + uptoBulkAll r
def uptoBulkEntries {H : Type} : List (Lit × DataW H) → Nat
  | [] => 0
  | x :: r => uptoBulkEntry x + uptoBulkEntries r
def uptoBulkEntry {H : Type} : Lit × DataW H → Nat
  | (.string bytes, d) => bytes.length + uptoBulk d + 1
  | (_, d) => uptoBulk d + 1
 end
def uptoSmall : (H : Type) → List (DataW H) → Bool := fun _ ds => decide (uptoBulkAll ds ≤ 1048576)
def OpenSpec.upto (s : _root_.Go.ChangeSpec) : _root_.Go.OpenSpec := { _root_.Go.OpenSpec.ofChange s with cond := some uptoSmall }

/-- 'outriderlaw25.ScriptBounds', WHERE WHAT IT READS IS OF BULK AT MOST 1048576: true; the input reads as it did. -/
def scriptBoundsUptoRow : OpenClaim := { program := "ytcadbfggaipnhaa", sum := "0ddc9f31f3406f2347dfa0aecd12802114c6e0482d41a832e8b6327b326092d3", func := "outrider/outriderlaw25.ScriptBounds", spec := "scriptBounds", unfollowed := true, recurses := true, apart := false, narrowed := true }
def ScriptBoundsUptoSaid : Prop := scriptBoundsUptoRow.holds Try.pinned (OpenSpec.upto scriptBoundsSpec)

/-- 'outriderlaw21.VerPlays', WHERE WHAT IT READS IS OF BULK AT MOST 1048576: true; the input reads as it did. -/
def verPlaysUptoRow : OpenClaim := { program := "ytcadbfggaipnhaa", sum := "0ddc9f31f3406f2347dfa0aecd12802114c6e0482d41a832e8b6327b326092d3", func := "outrider/outriderlaw21.VerPlays", spec := "verPlays", unfollowed := true, recurses := true, apart := false, narrowed := true }
def VerPlaysUptoSaid : Prop := verPlaysUptoRow.holds Try.pinned (OpenSpec.upto verPlaysSpec)

/-- 'outriderlaw27.TraceCuts', WHERE WHAT IT READS IS OF BULK AT MOST 1048576: true; the input reads as it did. -/
def traceCutsUptoRow : OpenClaim := { program := "ytcadbfggaipnhaa", sum := "0ddc9f31f3406f2347dfa0aecd12802114c6e0482d41a832e8b6327b326092d3", func := "outrider/outriderlaw27.TraceCuts", spec := "traceCuts", unfollowed := true, recurses := true, apart := false, narrowed := true }
def TraceCutsUptoSaid : Prop := traceCutsUptoRow.holds Try.pinned (OpenSpec.upto traceCutsSpec)

/-- 'outriderlaw27.TraceTrue', WHERE WHAT IT READS IS OF BULK AT MOST 1048576: true; the input reads as it did. -/
def traceTrueUptoRow : OpenClaim := { program := "ytcadbfggaipnhaa", sum := "0ddc9f31f3406f2347dfa0aecd12802114c6e0482d41a832e8b6327b326092d3", func := "outrider/outriderlaw27.TraceTrue", spec := "traceTrue", unfollowed := true, recurses := true, apart := false, narrowed := true }
def TraceTrueUptoSaid : Prop := traceTrueUptoRow.holds Try.pinned (OpenSpec.upto traceTrueSpec)

/-- 'outriderlaw19.DepSure', WHERE WHAT IT READS IS OF BULK AT MOST 1048576: true; the input reads as it did. -/
def depSureUptoRow : OpenClaim := { program := "ytcadbfggaipnhaa", sum := "0ddc9f31f3406f2347dfa0aecd12802114c6e0482d41a832e8b6327b326092d3", func := "outrider/outriderlaw19.DepSure", spec := "depSure", unfollowed := true, recurses := true, apart := false, narrowed := true }
def DepSureUptoSaid : Prop := depSureUptoRow.holds Try.pinned (OpenSpec.upto depSureSpec)

/-- 'outriderlaw29.FlowLists', WHERE WHAT IT READS IS OF BULK AT MOST 1048576: true; the input reads as it did. -/
def flowListsUptoRow : OpenClaim := { program := "ytcadbfggaipnhaa", sum := "0ddc9f31f3406f2347dfa0aecd12802114c6e0482d41a832e8b6327b326092d3", func := "outrider/outriderlaw29.FlowLists", spec := "flowLists", recurses := true, apart := false, narrowed := true }
def FlowListsUptoSaid : Prop := flowListsUptoRow.holds Try.pinned (OpenSpec.upto flowListsSpec)

/-- 'outriderlaw29.FlowChains', WHERE WHAT IT READS IS OF BULK AT MOST 1048576: true; the input reads as it did. -/
def flowChainsUptoRow : OpenClaim := { program := "ytcadbfggaipnhaa", sum := "0ddc9f31f3406f2347dfa0aecd12802114c6e0482d41a832e8b6327b326092d3", func := "outrider/outriderlaw29.FlowChains", spec := "flowChains", recurses := true, apart := false, narrowed := true }
def FlowChainsUptoSaid : Prop := flowChainsUptoRow.holds Try.pinned (OpenSpec.upto flowChainsSpec)

end Rows
end Go.Proofs.Ytcadbfggaipnhaa
