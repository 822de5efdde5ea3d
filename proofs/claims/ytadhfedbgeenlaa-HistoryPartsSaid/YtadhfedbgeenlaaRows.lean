/-
  No cell of these rows narrows 'for every input' (looked for: loops, veiled, ifaces, maps, wideKeys, modest, calm, conditions, laid).
  DERIVED. THE GIVEN ROWS OF THIS SEAT. 6 by the template 'for every input the law returns true; each argument reads behind the call as it read before'; 0 by the template 'total and deterministic' (their statements: YtadhfedbgeenlaaTotals.lean).
  GIVEN WITH THE SEED: the statements are not yours to turn. If you find one false, say at which input.
  Laid BY PROGRAM, IN A SANDBOX (cutbox-rows.mjs): the forced cells as the released guide's own fill.sh prints them over the translation 93e1d014b9135267… (all of the seat's roots in one cut). By AI agents, Wed Nov 11 2026. No macro, syntax, notation, axiom, sorry.
-/
import Derived.Test.YtadhfedbgeenlaaChecked
import GoSem.Claim
import GoSem.ClaimJoined
import GoSem.ClaimMapViews
import Derived.JoinedTies
import Derived.KernelRfl
namespace Go.Proofs.Ytadhfedbgeenlaa
/- THE CELL 'sum', in the pinned program and in every row, IS THE sha256 OF THE DUMP (.gsa) THAT YtadhfedbgeenlaaProg.lean LOADS. Nothing in Lean hashes anything: it is a label: what it is worth is what the hold of that sum in a sandbox is worth. -/
noncomputable def Try.pinned : Pinned := { name := "ytadhfedbgeenlaa", sum := "93e1d014b9135267d30a14996808b360ccf1f60fc4b2bb133478897106462a55", checked := Try.checked }
namespace Rows
def none {H : Type} : Left H := { results := [], args := [] }

/-- 'careenlaw21.HistoryTells': WHATEVER THE INPUT: true; the input reads as it did. -/
def historyTellsSpec : ChangeSpec := { name := "historyTells", fn := fun _ => fun
  | [d1, d2, d3, d4, d5] => { results := [.lit (.bool true)], args := [d1, d2, d3, d4, d5] }
  | _ => none }
def historyTellsRow : OpenClaim := { program := "ytadhfedbgeenlaa", sum := "93e1d014b9135267d30a14996808b360ccf1f60fc4b2bb133478897106462a55", func := "careen/careenlaw21.HistoryTells", spec := "historyTells", inPlace := ["internal/bytealg.abigen_runtime_cmpstring", "slices.overlaps[careen/api.Record]"], unfollowed := true, recurses := true, apart := false }
def HistoryTellsSaid : Prop := historyTellsRow.holds Try.pinned (OpenSpec.ofChange historyTellsSpec)

/-- ITS FALSE NEIGHBOUR: 'it returns false'. Refute it at one input. -/
def historyTellsWrong : ChangeSpec := { name := "historyTells", fn := fun _ => fun
  | [d1, d2, d3, d4, d5] => { results := [.lit (.bool false)], args := [d1, d2, d3, d4, d5] }
  | _ => none }
def HistoryTellsWrongFalsely : Prop := historyTellsRow.holds Try.pinned (OpenSpec.ofChange historyTellsWrong)

/-- 'careenlaw21.HistoryMay': WHATEVER THE INPUT: true; the input reads as it did. -/
def historyMaySpec : ChangeSpec := { name := "historyMay", fn := fun _ => fun
  | [d1, d2, d3] => { results := [.lit (.bool true)], args := [d1, d2, d3] }
  | _ => none }
def historyMayRow : OpenClaim := { program := "ytadhfedbgeenlaa", sum := "93e1d014b9135267d30a14996808b360ccf1f60fc4b2bb133478897106462a55", func := "careen/careenlaw21.HistoryMay", spec := "historyMay", inPlace := ["internal/bytealg.abigen_runtime_cmpstring", "slices.overlaps[careen/api.Record]"], unfollowed := true, recurses := true, apart := false }
def HistoryMaySaid : Prop := historyMayRow.holds Try.pinned (OpenSpec.ofChange historyMaySpec)

/-- ITS FALSE NEIGHBOUR: 'it returns false'. Refute it at one input. -/
def historyMayWrong : ChangeSpec := { name := "historyMay", fn := fun _ => fun
  | [d1, d2, d3] => { results := [.lit (.bool false)], args := [d1, d2, d3] }
  | _ => none }
def HistoryMayWrongFalsely : Prop := historyMayRow.holds Try.pinned (OpenSpec.ofChange historyMayWrong)

/-- 'careenlaw21.HistoryKnown': WHATEVER THE INPUT: true; the input reads as it did. -/
def historyKnownSpec : ChangeSpec := { name := "historyKnown", fn := fun _ => fun
  | [d1, d2, d3] => { results := [.lit (.bool true)], args := [d1, d2, d3] }
  | _ => none }
def historyKnownRow : OpenClaim := { program := "ytadhfedbgeenlaa", sum := "93e1d014b9135267d30a14996808b360ccf1f60fc4b2bb133478897106462a55", func := "careen/careenlaw21.HistoryKnown", spec := "historyKnown", inPlace := ["internal/bytealg.abigen_runtime_cmpstring", "slices.overlaps[careen/api.Record]"], unfollowed := true, recurses := true, apart := false }
def HistoryKnownSaid : Prop := historyKnownRow.holds Try.pinned (OpenSpec.ofChange historyKnownSpec)

/-- ITS FALSE NEIGHBOUR: 'it returns false'. Refute it at one input. -/
def historyKnownWrong : ChangeSpec := { name := "historyKnown", fn := fun _ => fun
  | [d1, d2, d3] => { results := [.lit (.bool false)], args := [d1, d2, d3] }
  | _ => none }
def HistoryKnownWrongFalsely : Prop := historyKnownRow.holds Try.pinned (OpenSpec.ofChange historyKnownWrong)

/-- 'careenlaw21.HistoryBegins': WHATEVER THE INPUT: true; the input reads as it did. -/
def historyBeginsSpec : ChangeSpec := { name := "historyBegins", fn := fun _ => fun
  | [d1, d2, d3, d4, d5] => { results := [.lit (.bool true)], args := [d1, d2, d3, d4, d5] }
  | _ => none }
def historyBeginsRow : OpenClaim := { program := "ytadhfedbgeenlaa", sum := "93e1d014b9135267d30a14996808b360ccf1f60fc4b2bb133478897106462a55", func := "careen/careenlaw21.HistoryBegins", spec := "historyBegins", inPlace := ["internal/bytealg.abigen_runtime_cmpstring", "slices.overlaps[careen/api.Record]"], unfollowed := true, recurses := true, apart := false }
def HistoryBeginsSaid : Prop := historyBeginsRow.holds Try.pinned (OpenSpec.ofChange historyBeginsSpec)

/-- ITS FALSE NEIGHBOUR: 'it returns false'. Refute it at one input. -/
def historyBeginsWrong : ChangeSpec := { name := "historyBegins", fn := fun _ => fun
  | [d1, d2, d3, d4, d5] => { results := [.lit (.bool false)], args := [d1, d2, d3, d4, d5] }
  | _ => none }
def HistoryBeginsWrongFalsely : Prop := historyBeginsRow.holds Try.pinned (OpenSpec.ofChange historyBeginsWrong)

/-- 'careenlaw21.HistoryOpen': WHATEVER THE INPUT: true; the input reads as it did. -/
def historyOpenSpec : ChangeSpec := { name := "historyOpen", fn := fun _ => fun
  | [d1, d2, d3, d4] => { results := [.lit (.bool true)], args := [d1, d2, d3, d4] }
  | _ => none }
def historyOpenRow : OpenClaim := { program := "ytadhfedbgeenlaa", sum := "93e1d014b9135267d30a14996808b360ccf1f60fc4b2bb133478897106462a55", func := "careen/careenlaw21.HistoryOpen", spec := "historyOpen", inPlace := ["internal/bytealg.abigen_runtime_cmpstring", "slices.overlaps[careen/api.Record]"], unfollowed := true, recurses := true, apart := false }
def HistoryOpenSaid : Prop := historyOpenRow.holds Try.pinned (OpenSpec.ofChange historyOpenSpec)

/-- ITS FALSE NEIGHBOUR: 'it returns false'. Refute it at one input. -/
def historyOpenWrong : ChangeSpec := { name := "historyOpen", fn := fun _ => fun
  | [d1, d2, d3, d4] => { results := [.lit (.bool false)], args := [d1, d2, d3, d4] }
  | _ => none }
def HistoryOpenWrongFalsely : Prop := historyOpenRow.holds Try.pinned (OpenSpec.ofChange historyOpenWrong)

/-- 'careenlaw21.HistoryParts': WHATEVER THE INPUT: true; the input reads as it did. -/
def historyPartsSpec : ChangeSpec := { name := "historyParts", fn := fun _ => fun
  | [d1, d2, d3, d4] => { results := [.lit (.bool true)], args := [d1, d2, d3, d4] }
  | _ => none }
def historyPartsRow : OpenClaim := { program := "ytadhfedbgeenlaa", sum := "93e1d014b9135267d30a14996808b360ccf1f60fc4b2bb133478897106462a55", func := "careen/careenlaw21.HistoryParts", spec := "historyParts", inPlace := ["internal/bytealg.abigen_runtime_cmpstring", "slices.overlaps[careen/api.Record]"], unfollowed := true, recurses := true, apart := false }
def HistoryPartsSaid : Prop := historyPartsRow.holds Try.pinned (OpenSpec.ofChange historyPartsSpec)

/-- ITS FALSE NEIGHBOUR: 'it returns false'. Refute it at one input. -/
def historyPartsWrong : ChangeSpec := { name := "historyParts", fn := fun _ => fun
  | [d1, d2, d3, d4] => { results := [.lit (.bool false)], args := [d1, d2, d3, d4] }
  | _ => none }
def HistoryPartsWrongFalsely : Prop := historyPartsRow.holds Try.pinned (OpenSpec.ofChange historyPartsWrong)

/- THE SECOND FORM. 'bulk': how many values and letters a reading holds, each counted each time it is reached (what is shared counts as often as it is met; a slice's spare places count too). A statement '..UptoSaid' is the law's where the arguments, and the package variables that the reading takes, are together of bulk at most 1048576: NARROWER than '..Said'. Prove '..Said' where nothing that the law and all that it calls make is longer than what came in: it says more and counts as full. Else prove '..UptoSaid'. A law counts once. -/
mutual
def uptoBulk {H : Type} : DataW H → Nat
  | .lit (.string bytes) => bytes.length + 1
  | .lit _ => 1
  | .nil => 1
  | .ptr d => uptoBulk d + 1
  | .slice elems spare => uptoBulkAll elems + uptoBulkAll spare + 1
  | .agg parts => uptoBulkAll parts + 1
  | .iface _ d => uptoBulk d + 1
  | .map entries => uptoBulkEntries entries + 1
  | .held _ => 1
def uptoBulkAll {H : Type} : List (DataW H) → Nat
  | [] => 0
  | d :: r => uptoBulk d + uptoBulkAll r
def uptoBulkEntries {H : Type} : List (Lit × DataW H) → Nat
  | [] => 0
  | x :: r => uptoBulkEntry x + uptoBulkEntries r
def uptoBulkEntry {H : Type} : Lit × DataW H → Nat
  | (.string bytes, d) => bytes.length + uptoBulk d + 1
  | (_, d) => uptoBulk d + 1
 end
def uptoSmall : (H : Type) → List (DataW H) → Bool := fun _ ds => decide (uptoBulkAll ds ≤ 1048576)
def OpenSpec.upto (s : _root_.Go.ChangeSpec) : _root_.Go.OpenSpec := { _root_.Go.OpenSpec.ofChange s with cond := some uptoSmall }

/-- 'careenlaw21.HistoryTells', WHERE WHAT IT READS IS OF BULK AT MOST 1048576: true; the input reads as it did. -/
def historyTellsUptoRow : OpenClaim := { program := "ytadhfedbgeenlaa", sum := "93e1d014b9135267d30a14996808b360ccf1f60fc4b2bb133478897106462a55", func := "careen/careenlaw21.HistoryTells", spec := "historyTells", inPlace := ["internal/bytealg.abigen_runtime_cmpstring", "slices.overlaps[careen/api.Record]"], unfollowed := true, recurses := true, apart := false, narrowed := true }
def HistoryTellsUptoSaid : Prop := historyTellsUptoRow.holds Try.pinned (OpenSpec.upto historyTellsSpec)

/-- 'careenlaw21.HistoryMay', WHERE WHAT IT READS IS OF BULK AT MOST 1048576: true; the input reads as it did. -/
def historyMayUptoRow : OpenClaim := { program := "ytadhfedbgeenlaa", sum := "93e1d014b9135267d30a14996808b360ccf1f60fc4b2bb133478897106462a55", func := "careen/careenlaw21.HistoryMay", spec := "historyMay", inPlace := ["internal/bytealg.abigen_runtime_cmpstring", "slices.overlaps[careen/api.Record]"], unfollowed := true, recurses := true, apart := false, narrowed := true }
def HistoryMayUptoSaid : Prop := historyMayUptoRow.holds Try.pinned (OpenSpec.upto historyMaySpec)

/-- 'careenlaw21.HistoryKnown', WHERE WHAT IT READS IS OF BULK AT MOST 1048576: true; the input reads as it did. -/
def historyKnownUptoRow : OpenClaim := { program := "ytadhfedbgeenlaa", sum := "93e1d014b9135267d30a14996808b360ccf1f60fc4b2bb133478897106462a55", func := "careen/careenlaw21.HistoryKnown", spec := "historyKnown", inPlace := ["internal/bytealg.abigen_runtime_cmpstring", "slices.overlaps[careen/api.Record]"], unfollowed := true, recurses := true, apart := false, narrowed := true }
def HistoryKnownUptoSaid : Prop := historyKnownUptoRow.holds Try.pinned (OpenSpec.upto historyKnownSpec)

/-- 'careenlaw21.HistoryBegins', WHERE WHAT IT READS IS OF BULK AT MOST 1048576: true; the input reads as it did. -/
def historyBeginsUptoRow : OpenClaim := { program := "ytadhfedbgeenlaa", sum := "93e1d014b9135267d30a14996808b360ccf1f60fc4b2bb133478897106462a55", func := "careen/careenlaw21.HistoryBegins", spec := "historyBegins", inPlace := ["internal/bytealg.abigen_runtime_cmpstring", "slices.overlaps[careen/api.Record]"], unfollowed := true, recurses := true, apart := false, narrowed := true }
def HistoryBeginsUptoSaid : Prop := historyBeginsUptoRow.holds Try.pinned (OpenSpec.upto historyBeginsSpec)

/-- 'careenlaw21.HistoryOpen', WHERE WHAT IT READS IS OF BULK AT MOST 1048576: true; the input reads as it did. -/
def historyOpenUptoRow : OpenClaim := { program := "ytadhfedbgeenlaa", sum := "93e1d014b9135267d30a14996808b360ccf1f60fc4b2bb133478897106462a55", func := "careen/careenlaw21.HistoryOpen", spec := "historyOpen", inPlace := ["internal/bytealg.abigen_runtime_cmpstring", "slices.overlaps[careen/api.Record]"], unfollowed := true, recurses := true, apart := false, narrowed := true }
def HistoryOpenUptoSaid : Prop := historyOpenUptoRow.holds Try.pinned (OpenSpec.upto historyOpenSpec)

/-- 'careenlaw21.HistoryParts', WHERE WHAT IT READS IS OF BULK AT MOST 1048576: true; the input reads as it did. -/
def historyPartsUptoRow : OpenClaim := { program := "ytadhfedbgeenlaa", sum := "93e1d014b9135267d30a14996808b360ccf1f60fc4b2bb133478897106462a55", func := "careen/careenlaw21.HistoryParts", spec := "historyParts", inPlace := ["internal/bytealg.abigen_runtime_cmpstring", "slices.overlaps[careen/api.Record]"], unfollowed := true, recurses := true, apart := false, narrowed := true }
def HistoryPartsUptoSaid : Prop := historyPartsUptoRow.holds Try.pinned (OpenSpec.upto historyPartsSpec)

end Rows
end Go.Proofs.Ytadhfedbgeenlaa
