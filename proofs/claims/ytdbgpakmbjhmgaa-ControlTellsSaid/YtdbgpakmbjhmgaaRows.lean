/-
  No cell of these rows narrows 'for every input' (looked for: loops, veiled, ifaces, maps, wideKeys, modest, calm, conditions, laid).
  DERIVED. THE GIVEN ROWS OF THIS SEAT. 7 by the template 'for every input the law returns true; each argument reads behind the call as it read before'; 0 by the template 'total and deterministic' (their statements: YtdbgpakmbjhmgaaTotals.lean).
  GIVEN WITH THE SEED: the statements are not yours to turn. If you find one false, say at which input.
  Laid BY PROGRAM, IN A SANDBOX (cutbox-rows.mjs): the forced cells as the released guide's own fill.sh prints them over the translation de4d98a9fa8a0e6d… (all of the seat's roots in one cut). By AI agents, Wed Nov 11 2026. No macro, syntax, notation, axiom, sorry.
-/
import Derived.Test.YtdbgpakmbjhmgaaChecked
import GoSem.Claim
import GoSem.ClaimJoined
import GoSem.ClaimMapViews
import Derived.JoinedTies
import Derived.KernelRfl
namespace Go.Proofs.Ytdbgpakmbjhmgaa
/- THE CELL 'sum', in the pinned program and in every row, IS THE sha256 OF THE DUMP (.gsa) THAT YtdbgpakmbjhmgaaProg.lean LOADS. Nothing in Lean hashes anything: it is a label: what it is worth is what the hold of that sum in a sandbox is worth. -/
noncomputable def Try.pinned : Pinned := { name := "ytdbgpakmbjhmgaa", sum := "de4d98a9fa8a0e6d4a440b4e363b749deea4486ebdae3968c48f8e6c03f7fc21", checked := Try.checked }
namespace Rows
def none {H : Type} : Left H := { results := [], args := [] }

/-- 'careenlaw18.ControlTells': WHATEVER THE INPUT: true; the input reads as it did. -/
def controlTellsSpec : ChangeSpec := { name := "controlTells", fn := fun _ => fun
  | [d1, d2, d3, d4, d5, d6] => { results := [.lit (.bool true)], args := [d1, d2, d3, d4, d5, d6] }
  | _ => none }
def controlTellsRow : OpenClaim := { program := "ytdbgpakmbjhmgaa", sum := "de4d98a9fa8a0e6d4a440b4e363b749deea4486ebdae3968c48f8e6c03f7fc21", func := "careen/careenlaw18.ControlTells", spec := "controlTells", unfollowed := true, recurses := true, apart := false }
def ControlTellsSaid : Prop := controlTellsRow.holds Try.pinned (OpenSpec.ofChange controlTellsSpec)

/-- ITS FALSE NEIGHBOUR: 'it returns false'. Refute it at one input. -/
def controlTellsWrong : ChangeSpec := { name := "controlTells", fn := fun _ => fun
  | [d1, d2, d3, d4, d5, d6] => { results := [.lit (.bool false)], args := [d1, d2, d3, d4, d5, d6] }
  | _ => none }
def ControlTellsWrongFalsely : Prop := controlTellsRow.holds Try.pinned (OpenSpec.ofChange controlTellsWrong)

/-- 'careenlaw18.ControlGate': WHATEVER THE INPUT: true; the input reads as it did. -/
def controlGateSpec : ChangeSpec := { name := "controlGate", fn := fun _ => fun
  | [d1, d2, d3, d4] => { results := [.lit (.bool true)], args := [d1, d2, d3, d4] }
  | _ => none }
def controlGateRow : OpenClaim := { program := "ytdbgpakmbjhmgaa", sum := "de4d98a9fa8a0e6d4a440b4e363b749deea4486ebdae3968c48f8e6c03f7fc21", func := "careen/careenlaw18.ControlGate", spec := "controlGate", unfollowed := true, recurses := true, apart := false }
def ControlGateSaid : Prop := controlGateRow.holds Try.pinned (OpenSpec.ofChange controlGateSpec)

/-- ITS FALSE NEIGHBOUR: 'it returns false'. Refute it at one input. -/
def controlGateWrong : ChangeSpec := { name := "controlGate", fn := fun _ => fun
  | [d1, d2, d3, d4] => { results := [.lit (.bool false)], args := [d1, d2, d3, d4] }
  | _ => none }
def ControlGateWrongFalsely : Prop := controlGateRow.holds Try.pinned (OpenSpec.ofChange controlGateWrong)

/-- 'careenlaw18.ControlMoves': WHATEVER THE INPUT: true; the input reads as it did. -/
def controlMovesSpec : ChangeSpec := { name := "controlMoves", fn := fun _ => fun
  | [d1, d2, d3, d4, d5] => { results := [.lit (.bool true)], args := [d1, d2, d3, d4, d5] }
  | _ => none }
def controlMovesRow : OpenClaim := { program := "ytdbgpakmbjhmgaa", sum := "de4d98a9fa8a0e6d4a440b4e363b749deea4486ebdae3968c48f8e6c03f7fc21", func := "careen/careenlaw18.ControlMoves", spec := "controlMoves", unfollowed := true, recurses := true, apart := false }
def ControlMovesSaid : Prop := controlMovesRow.holds Try.pinned (OpenSpec.ofChange controlMovesSpec)

/-- ITS FALSE NEIGHBOUR: 'it returns false'. Refute it at one input. -/
def controlMovesWrong : ChangeSpec := { name := "controlMoves", fn := fun _ => fun
  | [d1, d2, d3, d4, d5] => { results := [.lit (.bool false)], args := [d1, d2, d3, d4, d5] }
  | _ => none }
def ControlMovesWrongFalsely : Prop := controlMovesRow.holds Try.pinned (OpenSpec.ofChange controlMovesWrong)

/-- 'careenlaw18.ControlBalances': WHATEVER THE INPUT: true; the input reads as it did. -/
def controlBalancesSpec : ChangeSpec := { name := "controlBalances", fn := fun _ => fun
  | [d1, d2, d3] => { results := [.lit (.bool true)], args := [d1, d2, d3] }
  | _ => none }
def controlBalancesRow : OpenClaim := { program := "ytdbgpakmbjhmgaa", sum := "de4d98a9fa8a0e6d4a440b4e363b749deea4486ebdae3968c48f8e6c03f7fc21", func := "careen/careenlaw18.ControlBalances", spec := "controlBalances", unfollowed := true, recurses := true, apart := false }
def ControlBalancesSaid : Prop := controlBalancesRow.holds Try.pinned (OpenSpec.ofChange controlBalancesSpec)

/-- ITS FALSE NEIGHBOUR: 'it returns false'. Refute it at one input. -/
def controlBalancesWrong : ChangeSpec := { name := "controlBalances", fn := fun _ => fun
  | [d1, d2, d3] => { results := [.lit (.bool false)], args := [d1, d2, d3] }
  | _ => none }
def ControlBalancesWrongFalsely : Prop := controlBalancesRow.holds Try.pinned (OpenSpec.ofChange controlBalancesWrong)

/-- 'careenlaw18.ControlOnce': WHATEVER THE INPUT: true; the input reads as it did. -/
def controlOnceSpec : ChangeSpec := { name := "controlOnce", fn := fun _ => fun
  | [d1, d2, d3, d4] => { results := [.lit (.bool true)], args := [d1, d2, d3, d4] }
  | _ => none }
def controlOnceRow : OpenClaim := { program := "ytdbgpakmbjhmgaa", sum := "de4d98a9fa8a0e6d4a440b4e363b749deea4486ebdae3968c48f8e6c03f7fc21", func := "careen/careenlaw18.ControlOnce", spec := "controlOnce", unfollowed := true, recurses := true, apart := false }
def ControlOnceSaid : Prop := controlOnceRow.holds Try.pinned (OpenSpec.ofChange controlOnceSpec)

/-- ITS FALSE NEIGHBOUR: 'it returns false'. Refute it at one input. -/
def controlOnceWrong : ChangeSpec := { name := "controlOnce", fn := fun _ => fun
  | [d1, d2, d3, d4] => { results := [.lit (.bool false)], args := [d1, d2, d3, d4] }
  | _ => none }
def ControlOnceWrongFalsely : Prop := controlOnceRow.holds Try.pinned (OpenSpec.ofChange controlOnceWrong)

/-- 'careenlaw18.ControlBack': WHATEVER THE INPUT: true; the input reads as it did. -/
def controlBackSpec : ChangeSpec := { name := "controlBack", fn := fun _ => fun
  | [d1, d2, d3, d4] => { results := [.lit (.bool true)], args := [d1, d2, d3, d4] }
  | _ => none }
def controlBackRow : OpenClaim := { program := "ytdbgpakmbjhmgaa", sum := "de4d98a9fa8a0e6d4a440b4e363b749deea4486ebdae3968c48f8e6c03f7fc21", func := "careen/careenlaw18.ControlBack", spec := "controlBack", unfollowed := true, recurses := true, apart := false }
def ControlBackSaid : Prop := controlBackRow.holds Try.pinned (OpenSpec.ofChange controlBackSpec)

/-- ITS FALSE NEIGHBOUR: 'it returns false'. Refute it at one input. -/
def controlBackWrong : ChangeSpec := { name := "controlBack", fn := fun _ => fun
  | [d1, d2, d3, d4] => { results := [.lit (.bool false)], args := [d1, d2, d3, d4] }
  | _ => none }
def ControlBackWrongFalsely : Prop := controlBackRow.holds Try.pinned (OpenSpec.ofChange controlBackWrong)

/-- 'careenlaw18.ControlEven': WHATEVER THE INPUT: true; the input reads as it did. -/
def controlEvenSpec : ChangeSpec := { name := "controlEven", fn := fun _ => fun
  | [d1, d2, d3] => { results := [.lit (.bool true)], args := [d1, d2, d3] }
  | _ => none }
def controlEvenRow : OpenClaim := { program := "ytdbgpakmbjhmgaa", sum := "de4d98a9fa8a0e6d4a440b4e363b749deea4486ebdae3968c48f8e6c03f7fc21", func := "careen/careenlaw18.ControlEven", spec := "controlEven", unfollowed := true, recurses := true, apart := false }
def ControlEvenSaid : Prop := controlEvenRow.holds Try.pinned (OpenSpec.ofChange controlEvenSpec)

/-- ITS FALSE NEIGHBOUR: 'it returns false'. Refute it at one input. -/
def controlEvenWrong : ChangeSpec := { name := "controlEven", fn := fun _ => fun
  | [d1, d2, d3] => { results := [.lit (.bool false)], args := [d1, d2, d3] }
  | _ => none }
def ControlEvenWrongFalsely : Prop := controlEvenRow.holds Try.pinned (OpenSpec.ofChange controlEvenWrong)

/- THE SECOND FORM. 'bulk': how many values and letters a reading holds, each counted each time it is reached (what is shared counts as often as it is met; a slice's spare places count too). A statement '..UptoSaid' is the law's where the arguments, and the package variables that the reading takes, are together of bulk at most 1048576: NARROWER than '..Said'. Prove '..Said' where nothing that the law and all that it calls make is longer than what came in: it says more and counts as full. Else prove '..UptoSaid'. A law counts once. -/
mutual
def uptoBulk {H : Type} : DataW H → Nat
  | .lit (.string bytes) => bytes.length + 1
  | .lit _ => 1
  | .nil => 1
  | .ptr d => uptoBulk d + 1
  | .slice elems spare => uptoBulkAll elems + uptoBulkAll spare + 1
  | .agg parts => uptoBulkAll parts + 1
  | .iface _ d => uptoBulk d + 1
  | .map entries => uptoBulkEntries entries + 1
  | .held _ => 1
def uptoBulkAll {H : Type} : List (DataW H) → Nat
  | [] => 0
  | d :: r => uptoBulk d + uptoBulkAll r
def uptoBulkEntries {H : Type} : List (Lit × DataW H) → Nat
  | [] => 0
  | x :: r => uptoBulkEntry x + uptoBulkEntries r
def uptoBulkEntry {H : Type} : Lit × DataW H → Nat
  | (.string bytes, d) => bytes.length + uptoBulk d + 1
  | (_, d) => uptoBulk d + 1
 end
def uptoSmall : (H : Type) → List (DataW H) → Bool := fun _ ds => decide (uptoBulkAll ds ≤ 1048576)
def OpenSpec.upto (s : _root_.Go.ChangeSpec) : _root_.Go.OpenSpec := { _root_.Go.OpenSpec.ofChange s with cond := some uptoSmall }

/-- 'careenlaw18.ControlTells', WHERE WHAT IT READS IS OF BULK AT MOST 1048576: true; the input reads as it did. -/
def controlTellsUptoRow : OpenClaim := { program := "ytdbgpakmbjhmgaa", sum := "de4d98a9fa8a0e6d4a440b4e363b749deea4486ebdae3968c48f8e6c03f7fc21", func := "careen/careenlaw18.ControlTells", spec := "controlTells", unfollowed := true, recurses := true, apart := false, narrowed := true }
def ControlTellsUptoSaid : Prop := controlTellsUptoRow.holds Try.pinned (OpenSpec.upto controlTellsSpec)

/-- 'careenlaw18.ControlGate', WHERE WHAT IT READS IS OF BULK AT MOST 1048576: true; the input reads as it did. -/
def controlGateUptoRow : OpenClaim := { program := "ytdbgpakmbjhmgaa", sum := "de4d98a9fa8a0e6d4a440b4e363b749deea4486ebdae3968c48f8e6c03f7fc21", func := "careen/careenlaw18.ControlGate", spec := "controlGate", unfollowed := true, recurses := true, apart := false, narrowed := true }
def ControlGateUptoSaid : Prop := controlGateUptoRow.holds Try.pinned (OpenSpec.upto controlGateSpec)

/-- 'careenlaw18.ControlMoves', WHERE WHAT IT READS IS OF BULK AT MOST 1048576: true; the input reads as it did. -/
def controlMovesUptoRow : OpenClaim := { program := "ytdbgpakmbjhmgaa", sum := "de4d98a9fa8a0e6d4a440b4e363b749deea4486ebdae3968c48f8e6c03f7fc21", func := "careen/careenlaw18.ControlMoves", spec := "controlMoves", unfollowed := true, recurses := true, apart := false, narrowed := true }
def ControlMovesUptoSaid : Prop := controlMovesUptoRow.holds Try.pinned (OpenSpec.upto controlMovesSpec)

/-- 'careenlaw18.ControlBalances', WHERE WHAT IT READS IS OF BULK AT MOST 1048576: true; the input reads as it did. -/
def controlBalancesUptoRow : OpenClaim := { program := "ytdbgpakmbjhmgaa", sum := "de4d98a9fa8a0e6d4a440b4e363b749deea4486ebdae3968c48f8e6c03f7fc21", func := "careen/careenlaw18.ControlBalances", spec := "controlBalances", unfollowed := true, recurses := true, apart := false, narrowed := true }
def ControlBalancesUptoSaid : Prop := controlBalancesUptoRow.holds Try.pinned (OpenSpec.upto controlBalancesSpec)

/-- 'careenlaw18.ControlOnce', WHERE WHAT IT READS IS OF BULK AT MOST 1048576: true; the input reads as it did. -/
def controlOnceUptoRow : OpenClaim := { program := "ytdbgpakmbjhmgaa", sum := "de4d98a9fa8a0e6d4a440b4e363b749deea4486ebdae3968c48f8e6c03f7fc21", func := "careen/careenlaw18.ControlOnce", spec := "controlOnce", unfollowed := true, recurses := true, apart := false, narrowed := true }
def ControlOnceUptoSaid : Prop := controlOnceUptoRow.holds Try.pinned (OpenSpec.upto controlOnceSpec)

/-- 'careenlaw18.ControlBack', WHERE WHAT IT READS IS OF BULK AT MOST 1048576: true; the input reads as it did. -/
def controlBackUptoRow : OpenClaim := { program := "ytdbgpakmbjhmgaa", sum := "de4d98a9fa8a0e6d4a440b4e363b749deea4486ebdae3968c48f8e6c03f7fc21", func := "careen/careenlaw18.ControlBack", spec := "controlBack", unfollowed := true, recurses := true, apart := false, narrowed := true }
def ControlBackUptoSaid : Prop := controlBackUptoRow.holds Try.pinned (OpenSpec.upto controlBackSpec)

/-- 'careenlaw18.ControlEven', WHERE WHAT IT READS IS OF BULK AT MOST 1048576: true; the input reads as it did. -/
def controlEvenUptoRow : OpenClaim := { program := "ytdbgpakmbjhmgaa", sum := "de4d98a9fa8a0e6d4a440b4e363b749deea4486ebdae3968c48f8e6c03f7fc21", func := "careen/careenlaw18.ControlEven", spec := "controlEven", unfollowed := true, recurses := true, apart := false, narrowed := true }
def ControlEvenUptoSaid : Prop := controlEvenUptoRow.holds Try.pinned (OpenSpec.upto controlEvenSpec)

end Rows
end Go.Proofs.Ytdbgpakmbjhmgaa
