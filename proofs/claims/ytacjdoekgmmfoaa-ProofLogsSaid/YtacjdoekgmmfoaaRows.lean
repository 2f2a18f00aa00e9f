/-
  No cell of these rows narrows 'for every input' (looked for: loops, veiled, ifaces, maps, wideKeys, modest, calm, conditions, laid).
  DERIVED. THE GIVEN ROWS OF THIS SEAT. 13 by the template 'for every input the law returns true; each argument reads behind the call as it read before'; 0 by the template 'total and deterministic' (their statements: YtacjdoekgmmfoaaTotals.lean).
  GIVEN WITH THE SEED: the statements are not yours to turn. If you find one false, say at which input.
  Laid BY PROGRAM, IN A SANDBOX (cutbox-rows.mjs): the forced cells as the released guide's own fill.sh prints them over the translation 8d0ffb77e01b724f… (all of the seat's roots in one cut). By AI agents, Wed Nov 11 2026. No macro, syntax, notation, axiom, sorry.
-/
import Derived.Test.YtacjdoekgmmfoaaChecked
import GoSem.Claim
import GoSem.ClaimJoined
import GoSem.ClaimMapViews
import Derived.JoinedTies
import Derived.KernelRfl
namespace Go.Proofs.Ytacjdoekgmmfoaa
/- THE CELL 'sum', in the pinned program and in every row, IS THE sha256 OF THE DUMP (.gsa) THAT YtacjdoekgmmfoaaProg.lean LOADS. Nothing in Lean hashes anything: it is a label: what it is worth is what the hold of that sum in a sandbox is worth. -/
noncomputable def Try.pinned : Pinned := { name := "ytacjdoekgmmfoaa", sum := "8d0ffb77e01b724f1d3d1dea1d54bfafe0f658971a9661039d782874e5df1bc2", checked := Try.checked }
namespace Rows
def none {H : Type} : Left H := { results := [], args := [] }

/-- 'kimberlitelaw07.ProofAccuses': WHATEVER THE INPUT: true; the input reads as it did. -/
def proofAccusesSpec : ChangeSpec := { name := "proofAccuses", fn := fun _ => fun
  | [d1, d2, d3, d4] => { results := [.lit (.bool true)], args := [d1, d2, d3, d4] }
  | _ => none }
def proofAccusesRow : OpenClaim := { program := "ytacjdoekgmmfoaa", sum := "8d0ffb77e01b724f1d3d1dea1d54bfafe0f658971a9661039d782874e5df1bc2", func := "kimberlite/kimberlitelaw07.ProofAccuses", spec := "proofAccuses", recurses := true, apart := false }
def ProofAccusesSaid : Prop := proofAccusesRow.holds Try.pinned (OpenSpec.ofChange proofAccusesSpec)

/-- ITS FALSE NEIGHBOUR: 'it returns false'. Refute it at one input. -/
def proofAccusesWrong : ChangeSpec := { name := "proofAccuses", fn := fun _ => fun
  | [d1, d2, d3, d4] => { results := [.lit (.bool false)], args := [d1, d2, d3, d4] }
  | _ => none }
def ProofAccusesWrongFalsely : Prop := proofAccusesRow.holds Try.pinned (OpenSpec.ofChange proofAccusesWrong)

/-- 'kimberlitelaw07.ProofBlames': WHATEVER THE INPUT: true; the input reads as it did. -/
def proofBlamesSpec : ChangeSpec := { name := "proofBlames", fn := fun _ => fun
  | [d1, d2, d3, d4] => { results := [.lit (.bool true)], args := [d1, d2, d3, d4] }
  | _ => none }
def proofBlamesRow : OpenClaim := { program := "ytacjdoekgmmfoaa", sum := "8d0ffb77e01b724f1d3d1dea1d54bfafe0f658971a9661039d782874e5df1bc2", func := "kimberlite/kimberlitelaw07.ProofBlames", spec := "proofBlames", recurses := true, apart := false }
def ProofBlamesSaid : Prop := proofBlamesRow.holds Try.pinned (OpenSpec.ofChange proofBlamesSpec)

/-- ITS FALSE NEIGHBOUR: 'it returns false'. Refute it at one input. -/
def proofBlamesWrong : ChangeSpec := { name := "proofBlames", fn := fun _ => fun
  | [d1, d2, d3, d4] => { results := [.lit (.bool false)], args := [d1, d2, d3, d4] }
  | _ => none }
def ProofBlamesWrongFalsely : Prop := proofBlamesRow.holds Try.pinned (OpenSpec.ofChange proofBlamesWrong)

/-- 'kimberlitelaw07.ProofHashes': WHATEVER THE INPUT: true; the input reads as it did. -/
def proofHashesSpec : ChangeSpec := { name := "proofHashes", fn := fun _ => fun
  | [d1, d2, d3, d4] => { results := [.lit (.bool true)], args := [d1, d2, d3, d4] }
  | _ => none }
def proofHashesRow : OpenClaim := { program := "ytacjdoekgmmfoaa", sum := "8d0ffb77e01b724f1d3d1dea1d54bfafe0f658971a9661039d782874e5df1bc2", func := "kimberlite/kimberlitelaw07.ProofHashes", spec := "proofHashes", recurses := true, apart := false }
def ProofHashesSaid : Prop := proofHashesRow.holds Try.pinned (OpenSpec.ofChange proofHashesSpec)

/-- ITS FALSE NEIGHBOUR: 'it returns false'. Refute it at one input. -/
def proofHashesWrong : ChangeSpec := { name := "proofHashes", fn := fun _ => fun
  | [d1, d2, d3, d4] => { results := [.lit (.bool false)], args := [d1, d2, d3, d4] }
  | _ => none }
def ProofHashesWrongFalsely : Prop := proofHashesRow.holds Try.pinned (OpenSpec.ofChange proofHashesWrong)

/-- 'kimberlitelaw07.ProofJudges': WHATEVER THE INPUT: true; the input reads as it did. -/
def proofJudgesSpec : ChangeSpec := { name := "proofJudges", fn := fun _ => fun
  | [d1, d2, d3, d4, d5, d6, d7, d8] => { results := [.lit (.bool true)], args := [d1, d2, d3, d4, d5, d6, d7, d8] }
  | _ => none }
def proofJudgesRow : OpenClaim := { program := "ytacjdoekgmmfoaa", sum := "8d0ffb77e01b724f1d3d1dea1d54bfafe0f658971a9661039d782874e5df1bc2", func := "kimberlite/kimberlitelaw07.ProofJudges", spec := "proofJudges", recurses := true, apart := false }
def ProofJudgesSaid : Prop := proofJudgesRow.holds Try.pinned (OpenSpec.ofChange proofJudgesSpec)

/-- ITS FALSE NEIGHBOUR: 'it returns false'. Refute it at one input. -/
def proofJudgesWrong : ChangeSpec := { name := "proofJudges", fn := fun _ => fun
  | [d1, d2, d3, d4, d5, d6, d7, d8] => { results := [.lit (.bool false)], args := [d1, d2, d3, d4, d5, d6, d7, d8] }
  | _ => none }
def ProofJudgesWrongFalsely : Prop := proofJudgesRow.holds Try.pinned (OpenSpec.ofChange proofJudgesWrong)

/-- 'kimberlitelaw07.ProofBinds': WHATEVER THE INPUT: true; the input reads as it did. -/
def proofBindsSpec : ChangeSpec := { name := "proofBinds", fn := fun _ => fun
  | [d1, d2, d3, d4, d5] => { results := [.lit (.bool true)], args := [d1, d2, d3, d4, d5] }
  | _ => none }
def proofBindsRow : OpenClaim := { program := "ytacjdoekgmmfoaa", sum := "8d0ffb77e01b724f1d3d1dea1d54bfafe0f658971a9661039d782874e5df1bc2", func := "kimberlite/kimberlitelaw07.ProofBinds", spec := "proofBinds", recurses := true, apart := false }
def ProofBindsSaid : Prop := proofBindsRow.holds Try.pinned (OpenSpec.ofChange proofBindsSpec)

/-- ITS FALSE NEIGHBOUR: 'it returns false'. Refute it at one input. -/
def proofBindsWrong : ChangeSpec := { name := "proofBinds", fn := fun _ => fun
  | [d1, d2, d3, d4, d5] => { results := [.lit (.bool false)], args := [d1, d2, d3, d4, d5] }
  | _ => none }
def ProofBindsWrongFalsely : Prop := proofBindsRow.holds Try.pinned (OpenSpec.ofChange proofBindsWrong)

/-- 'kimberlitelaw07.ProofOrder': WHATEVER THE INPUT: true; the input reads as it did. -/
def proofOrderSpec : ChangeSpec := { name := "proofOrder", fn := fun _ => fun
  | [d1, d2, d3] => { results := [.lit (.bool true)], args := [d1, d2, d3] }
  | _ => none }
def proofOrderRow : OpenClaim := { program := "ytacjdoekgmmfoaa", sum := "8d0ffb77e01b724f1d3d1dea1d54bfafe0f658971a9661039d782874e5df1bc2", func := "kimberlite/kimberlitelaw07.ProofOrder", spec := "proofOrder", recurses := true, apart := false }
def ProofOrderSaid : Prop := proofOrderRow.holds Try.pinned (OpenSpec.ofChange proofOrderSpec)

/-- ITS FALSE NEIGHBOUR: 'it returns false'. Refute it at one input. -/
def proofOrderWrong : ChangeSpec := { name := "proofOrder", fn := fun _ => fun
  | [d1, d2, d3] => { results := [.lit (.bool false)], args := [d1, d2, d3] }
  | _ => none }
def ProofOrderWrongFalsely : Prop := proofOrderRow.holds Try.pinned (OpenSpec.ofChange proofOrderWrong)

/-- 'kimberlitelaw07.ProofMakes': WHATEVER THE INPUT: true; the input reads as it did. -/
def proofMakesSpec : ChangeSpec := { name := "proofMakes", fn := fun _ => fun
  | [d1, d2, d3] => { results := [.lit (.bool true)], args := [d1, d2, d3] }
  | _ => none }
def proofMakesRow : OpenClaim := { program := "ytacjdoekgmmfoaa", sum := "8d0ffb77e01b724f1d3d1dea1d54bfafe0f658971a9661039d782874e5df1bc2", func := "kimberlite/kimberlitelaw07.ProofMakes", spec := "proofMakes", recurses := true, apart := false }
def ProofMakesSaid : Prop := proofMakesRow.holds Try.pinned (OpenSpec.ofChange proofMakesSpec)

/-- ITS FALSE NEIGHBOUR: 'it returns false'. Refute it at one input. -/
def proofMakesWrong : ChangeSpec := { name := "proofMakes", fn := fun _ => fun
  | [d1, d2, d3] => { results := [.lit (.bool false)], args := [d1, d2, d3] }
  | _ => none }
def ProofMakesWrongFalsely : Prop := proofMakesRow.holds Try.pinned (OpenSpec.ofChange proofMakesWrong)

/-- 'kimberlitelaw07.ProofShort': WHATEVER THE INPUT: true; the input reads as it did. -/
def proofShortSpec : ChangeSpec := { name := "proofShort", fn := fun _ => fun
  | [d1, d2, d3] => { results := [.lit (.bool true)], args := [d1, d2, d3] }
  | _ => none }
def proofShortRow : OpenClaim := { program := "ytacjdoekgmmfoaa", sum := "8d0ffb77e01b724f1d3d1dea1d54bfafe0f658971a9661039d782874e5df1bc2", func := "kimberlite/kimberlitelaw07.ProofShort", spec := "proofShort", recurses := true, apart := false }
def ProofShortSaid : Prop := proofShortRow.holds Try.pinned (OpenSpec.ofChange proofShortSpec)

/-- ITS FALSE NEIGHBOUR: 'it returns false'. Refute it at one input. -/
def proofShortWrong : ChangeSpec := { name := "proofShort", fn := fun _ => fun
  | [d1, d2, d3] => { results := [.lit (.bool false)], args := [d1, d2, d3] }
  | _ => none }
def ProofShortWrongFalsely : Prop := proofShortRow.holds Try.pinned (OpenSpec.ofChange proofShortWrong)

/-- 'kimberlitelaw07.ProofLogs': WHATEVER THE INPUT: true; the input reads as it did. -/
def proofLogsSpec : ChangeSpec := { name := "proofLogs", fn := fun _ => fun
  | [d1, d2, d3, d4, d5] => { results := [.lit (.bool true)], args := [d1, d2, d3, d4, d5] }
  | _ => none }
def proofLogsRow : OpenClaim := { program := "ytacjdoekgmmfoaa", sum := "8d0ffb77e01b724f1d3d1dea1d54bfafe0f658971a9661039d782874e5df1bc2", func := "kimberlite/kimberlitelaw07.ProofLogs", spec := "proofLogs", recurses := true, apart := false }
def ProofLogsSaid : Prop := proofLogsRow.holds Try.pinned (OpenSpec.ofChange proofLogsSpec)

/-- ITS FALSE NEIGHBOUR: 'it returns false'. Refute it at one input. -/
def proofLogsWrong : ChangeSpec := { name := "proofLogs", fn := fun _ => fun
  | [d1, d2, d3, d4, d5] => { results := [.lit (.bool false)], args := [d1, d2, d3, d4, d5] }
  | _ => none }
def ProofLogsWrongFalsely : Prop := proofLogsRow.holds Try.pinned (OpenSpec.ofChange proofLogsWrong)

/-- 'kimberlitelaw07.ProofNobody': WHATEVER THE INPUT: true; the input reads as it did. -/
def proofNobodySpec : ChangeSpec := { name := "proofNobody", fn := fun _ => fun
  | [d1, d2, d3, d4] => { results := [.lit (.bool true)], args := [d1, d2, d3, d4] }
  | _ => none }
def proofNobodyRow : OpenClaim := { program := "ytacjdoekgmmfoaa", sum := "8d0ffb77e01b724f1d3d1dea1d54bfafe0f658971a9661039d782874e5df1bc2", func := "kimberlite/kimberlitelaw07.ProofNobody", spec := "proofNobody", recurses := true, apart := false }
def ProofNobodySaid : Prop := proofNobodyRow.holds Try.pinned (OpenSpec.ofChange proofNobodySpec)

/-- ITS FALSE NEIGHBOUR: 'it returns false'. Refute it at one input. -/
def proofNobodyWrong : ChangeSpec := { name := "proofNobody", fn := fun _ => fun
  | [d1, d2, d3, d4] => { results := [.lit (.bool false)], args := [d1, d2, d3, d4] }
  | _ => none }
def ProofNobodyWrongFalsely : Prop := proofNobodyRow.holds Try.pinned (OpenSpec.ofChange proofNobodyWrong)

/-- 'kimberlitelaw07.ProofGrows': WHATEVER THE INPUT: true; the input reads as it did. -/
def proofGrowsSpec : ChangeSpec := { name := "proofGrows", fn := fun _ => fun
  | [d1, d2, d3, d4, d5] => { results := [.lit (.bool true)], args := [d1, d2, d3, d4, d5] }
  | _ => none }
def proofGrowsRow : OpenClaim := { program := "ytacjdoekgmmfoaa", sum := "8d0ffb77e01b724f1d3d1dea1d54bfafe0f658971a9661039d782874e5df1bc2", func := "kimberlite/kimberlitelaw07.ProofGrows", spec := "proofGrows", recurses := true, apart := false }
def ProofGrowsSaid : Prop := proofGrowsRow.holds Try.pinned (OpenSpec.ofChange proofGrowsSpec)

/-- ITS FALSE NEIGHBOUR: 'it returns false'. Refute it at one input. -/
def proofGrowsWrong : ChangeSpec := { name := "proofGrows", fn := fun _ => fun
  | [d1, d2, d3, d4, d5] => { results := [.lit (.bool false)], args := [d1, d2, d3, d4, d5] }
  | _ => none }
def ProofGrowsWrongFalsely : Prop := proofGrowsRow.holds Try.pinned (OpenSpec.ofChange proofGrowsWrong)

/-- 'kimberlitelaw07.ProofFull': WHATEVER THE INPUT: true; the input reads as it did. -/
def proofFullSpec : ChangeSpec := { name := "proofFull", fn := fun _ => fun
  | [d1, d2] => { results := [.lit (.bool true)], args := [d1, d2] }
  | _ => none }
def proofFullRow : OpenClaim := { program := "ytacjdoekgmmfoaa", sum := "8d0ffb77e01b724f1d3d1dea1d54bfafe0f658971a9661039d782874e5df1bc2", func := "kimberlite/kimberlitelaw07.ProofFull", spec := "proofFull", recurses := true, apart := false }
def ProofFullSaid : Prop := proofFullRow.holds Try.pinned (OpenSpec.ofChange proofFullSpec)

/-- ITS FALSE NEIGHBOUR: 'it returns false'. Refute it at one input. -/
def proofFullWrong : ChangeSpec := { name := "proofFull", fn := fun _ => fun
  | [d1, d2] => { results := [.lit (.bool false)], args := [d1, d2] }
  | _ => none }
def ProofFullWrongFalsely : Prop := proofFullRow.holds Try.pinned (OpenSpec.ofChange proofFullWrong)

/-- 'kimberlitelaw07.ProofComplete': WHATEVER THE INPUT: true; the input reads as it did. -/
def proofCompleteSpec : ChangeSpec := { name := "proofComplete", fn := fun _ => fun
  | [d1, d2, d3] => { results := [.lit (.bool true)], args := [d1, d2, d3] }
  | _ => none }
def proofCompleteRow : OpenClaim := { program := "ytacjdoekgmmfoaa", sum := "8d0ffb77e01b724f1d3d1dea1d54bfafe0f658971a9661039d782874e5df1bc2", func := "kimberlite/kimberlitelaw07.ProofComplete", spec := "proofComplete", recurses := true, apart := false }
def ProofCompleteSaid : Prop := proofCompleteRow.holds Try.pinned (OpenSpec.ofChange proofCompleteSpec)

/-- ITS FALSE NEIGHBOUR: 'it returns false'. Refute it at one input. -/
def proofCompleteWrong : ChangeSpec := { name := "proofComplete", fn := fun _ => fun
  | [d1, d2, d3] => { results := [.lit (.bool false)], args := [d1, d2, d3] }
  | _ => none }
def ProofCompleteWrongFalsely : Prop := proofCompleteRow.holds Try.pinned (OpenSpec.ofChange proofCompleteWrong)

/- THE SECOND FORM. 'bulk': how many values and letters a reading holds, each counted each time it is reached (what is shared counts as often as it is met; a slice's spare places count too). A statement '..UptoSaid' is the law's where the arguments, and the package variables that the reading takes, are together of bulk at most 1048576: NARROWER than '..Said'. Prove '..Said' where nothing that the law and all that it calls make is longer than what came in: it says more and counts as full. Else prove '..UptoSaid'. A law counts once. -/
mutual
def uptoBulk {H : Type} : DataW H → Nat
  | .lit (.string bytes) => bytes.length + 1
  | .lit _ => 1
  | .nil => 1
  | .ptr d => uptoBulk d + 1
  | .slice elems spare => uptoBulkAll elems + uptoBulkAll spare + 1
  | .agg parts => uptoBulkAll parts + 1
  | .iface _ d => uptoBulk d + 1
  | .map entries => uptoBulkEntries entries + 1
  | .held _ => 1
def uptoBulkAll {H : Type} : List (DataW H) → Nat
  | [] => 0
  | d :: r => uptoBulk d + uptoBulkAll r
def uptoBulkEntries {H : Type} : List (Lit × DataW H) → Nat
  | [] => 0
  | x :: r => uptoBulkEntry x + uptoBulkEntries r
def uptoBulkEntry {H : Type} : Lit × DataW H → Nat
  | (.string bytes, d) => bytes.length + uptoBulk d + 1
  | (_, d) => uptoBulk d + 1
 end
def uptoSmall : (H : Type) → List (DataW H) → Bool := fun _ ds => decide (uptoBulkAll ds ≤ 1048576)
def OpenSpec.upto (s : _root_.Go.ChangeSpec) : _root_.Go.OpenSpec := { _root_.Go.OpenSpec.ofChange s with cond := some uptoSmall }

/-- 'kimberlitelaw07.ProofAccuses', WHERE WHAT IT READS IS OF BULK AT MOST 1048576: true; the input reads as it did. -/
def proofAccusesUptoRow : OpenClaim := { program := "ytacjdoekgmmfoaa", sum := "8d0ffb77e01b724f1d3d1dea1d54bfafe0f658971a9661039d782874e5df1bc2", func := "kimberlite/kimberlitelaw07.ProofAccuses", spec := "proofAccuses", recurses := true, apart := false, narrowed := true }
def ProofAccusesUptoSaid : Prop := proofAccusesUptoRow.holds Try.pinned (OpenSpec.upto proofAccusesSpec)

/-- 'kimberlitelaw07.ProofBlames', WHERE WHAT IT READS IS OF BULK AT MOST 1048576: true; the input reads as it did. -/
def proofBlamesUptoRow : OpenClaim := { program := "ytacjdoekgmmfoaa", sum := "8d0ffb77e01b724f1d3d1dea1d54bfafe0f658971a9661039d782874e5df1bc2", func := "kimberlite/kimberlitelaw07.ProofBlames", spec := "proofBlames", recurses := true, apart := false, narrowed := true }
def ProofBlamesUptoSaid : Prop := proofBlamesUptoRow.holds Try.pinned (OpenSpec.upto proofBlamesSpec)

/-- 'kimberlitelaw07.ProofHashes', WHERE WHAT IT READS IS OF BULK AT MOST 1048576: true; the input reads as it did. -/
def proofHashesUptoRow : OpenClaim := { program := "ytacjdoekgmmfoaa", sum := "8d0ffb77e01b724f1d3d1dea1d54bfafe0f658971a9661039d782874e5df1bc2", func := "kimberlite/kimberlitelaw07.ProofHashes", spec := "proofHashes", recurses := true, apart := false, narrowed := true }
def ProofHashesUptoSaid : Prop := proofHashesUptoRow.holds Try.pinned (OpenSpec.upto proofHashesSpec)

/-- 'kimberlitelaw07.ProofJudges', WHERE WHAT IT READS IS OF BULK AT MOST 1048576: true; the input reads as it did. -/
def proofJudgesUptoRow : OpenClaim := { program := "ytacjdoekgmmfoaa", sum := "8d0ffb77e01b724f1d3d1dea1d54bfafe0f658971a9661039d782874e5df1bc2", func := "kimberlite/kimberlitelaw07.ProofJudges", spec := "proofJudges", recurses := true, apart := false, narrowed := true }
def ProofJudgesUptoSaid : Prop := proofJudgesUptoRow.holds Try.pinned (OpenSpec.upto proofJudgesSpec)

/-- 'kimberlitelaw07.ProofBinds', WHERE WHAT IT READS IS OF BULK AT MOST 1048576: true; the input reads as it did. -/
def proofBindsUptoRow : OpenClaim := { program := "ytacjdoekgmmfoaa", sum := "8d0ffb77e01b724f1d3d1dea1d54bfafe0f658971a9661039d782874e5df1bc2", func := "kimberlite/kimberlitelaw07.ProofBinds", spec := "proofBinds", recurses := true, apart := false, narrowed := true }
def ProofBindsUptoSaid : Prop := proofBindsUptoRow.holds Try.pinned (OpenSpec.upto proofBindsSpec)

/-- 'kimberlitelaw07.ProofOrder', WHERE WHAT IT READS IS OF BULK AT MOST 1048576: true; the input reads as it did. -/
def proofOrderUptoRow : OpenClaim := { program := "ytacjdoekgmmfoaa", sum := "8d0ffb77e01b724f1d3d1dea1d54bfafe0f658971a9661039d782874e5df1bc2", func := "kimberlite/kimberlitelaw07.ProofOrder", spec := "proofOrder", recurses := true, apart := false, narrowed := true }
def ProofOrderUptoSaid : Prop := proofOrderUptoRow.holds Try.pinned (OpenSpec.upto proofOrderSpec)

/-- 'kimberlitelaw07.ProofMakes', WHERE WHAT IT READS IS OF BULK AT MOST 1048576: true; the input reads as it did. -/
def proofMakesUptoRow : OpenClaim := { program := "ytacjdoekgmmfoaa", sum := "8d0ffb77e01b724f1d3d1dea1d54bfafe0f658971a9661039d782874e5df1bc2", func := "kimberlite/kimberlitelaw07.ProofMakes", spec := "proofMakes", recurses := true, apart := false, narrowed := true }
def ProofMakesUptoSaid : Prop := proofMakesUptoRow.holds Try.pinned (OpenSpec.upto proofMakesSpec)

/-- 'kimberlitelaw07.ProofShort', WHERE WHAT IT READS IS OF BULK AT MOST 1048576: true; the input reads as it did. -/
def proofShortUptoRow : OpenClaim := { program := "ytacjdoekgmmfoaa", sum := "8d0ffb77e01b724f1d3d1dea1d54bfafe0f658971a9661039d782874e5df1bc2", func := "kimberlite/kimberlitelaw07.ProofShort", spec := "proofShort", recurses := true, apart := false, narrowed := true }
def ProofShortUptoSaid : Prop := proofShortUptoRow.holds Try.pinned (OpenSpec.upto proofShortSpec)

/-- 'kimberlitelaw07.ProofLogs', WHERE WHAT IT READS IS OF BULK AT MOST 1048576: true; the input reads as it did. -/
def proofLogsUptoRow : OpenClaim := { program := "ytacjdoekgmmfoaa", sum := "8d0ffb77e01b724f1d3d1dea1d54bfafe0f658971a9661039d782874e5df1bc2", func := "kimberlite/kimberlitelaw07.ProofLogs", spec := "proofLogs", recurses := true, apart := false, narrowed := true }
def ProofLogsUptoSaid : Prop := proofLogsUptoRow.holds Try.pinned (OpenSpec.upto proofLogsSpec)

/-- 'kimberlitelaw07.ProofNobody', WHERE WHAT IT READS IS OF BULK AT MOST 1048576: true; the input reads as it did. -/
def proofNobodyUptoRow : OpenClaim := { program := "ytacjdoekgmmfoaa", sum := "8d0ffb77e01b724f1d3d1dea1d54bfafe0f658971a9661039d782874e5df1bc2", func := "kimberlite/kimberlitelaw07.ProofNobody", spec := "proofNobody", recurses := true, apart := false, narrowed := true }
def ProofNobodyUptoSaid : Prop := proofNobodyUptoRow.holds Try.pinned (OpenSpec.upto proofNobodySpec)

/-- 'kimberlitelaw07.ProofGrows', WHERE WHAT IT READS IS OF BULK AT MOST 1048576: true; the input reads as it did. -/
def proofGrowsUptoRow : OpenClaim := { program := "ytacjdoekgmmfoaa", sum := "8d0ffb77e01b724f1d3d1dea1d54bfafe0f658971a9661039d782874e5df1bc2", func := "kimberlite/kimberlitelaw07.ProofGrows", spec := "proofGrows", recurses := true, apart := false, narrowed := true }
def ProofGrowsUptoSaid : Prop := proofGrowsUptoRow.holds Try.pinned (OpenSpec.upto proofGrowsSpec)

/-- 'kimberlitelaw07.ProofFull', WHERE WHAT IT READS IS OF BULK AT MOST 1048576: true; the input reads as it did. -/
def proofFullUptoRow : OpenClaim := { program := "ytacjdoekgmmfoaa", sum := "8d0ffb77e01b724f1d3d1dea1d54bfafe0f658971a9661039d782874e5df1bc2", func := "kimberlite/kimberlitelaw07.ProofFull", spec := "proofFull", recurses := true, apart := false, narrowed := true }
def ProofFullUptoSaid : Prop := proofFullUptoRow.holds Try.pinned (OpenSpec.upto proofFullSpec)

/-- 'kimberlitelaw07.ProofComplete', WHERE WHAT IT READS IS OF BULK AT MOST 1048576: true; the input reads as it did. -/
def proofCompleteUptoRow : OpenClaim := { program := "ytacjdoekgmmfoaa", sum := "8d0ffb77e01b724f1d3d1dea1d54bfafe0f658971a9661039d782874e5df1bc2", func := "kimberlite/kimberlitelaw07.ProofComplete", spec := "proofComplete", recurses := true, apart := false, narrowed := true }
def ProofCompleteUptoSaid : Prop := proofCompleteUptoRow.holds Try.pinned (OpenSpec.upto proofCompleteSpec)

end Rows
end Go.Proofs.Ytacjdoekgmmfoaa
