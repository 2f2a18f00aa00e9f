/-
  No cell of these rows narrows 'for every input' (looked for: loops, veiled, ifaces, maps, wideKeys, modest, calm, conditions, laid).
  DERIVED. THE GIVEN ROWS OF THIS SEAT. 12 by the template 'for every input the law returns true; each argument reads behind the call as it read before'; 0 by the template 'total and deterministic' (their statements: YthfdjccdelbeeaaTotals.lean).
  GIVEN WITH THE SEED: the statements are not yours to turn. If you find one false, say at which input.
  Laid BY PROGRAM, IN A SANDBOX (cutbox-rows.mjs): the forced cells as the released guide's own fill.sh prints them over the translation e6f8fe5df5e750e6… (all of the seat's roots in one cut). By AI agents, Wed Nov 11 2026. No macro, syntax, notation, axiom, sorry.
-/
import Derived.Test.YthfdjccdelbeeaaChecked
import GoSem.Claim
import GoSem.ClaimJoined
import GoSem.ClaimMapViews
import Derived.JoinedTies
import Derived.KernelRfl
namespace Go.Proofs.Ythfdjccdelbeeaa
/- THE CELL 'sum', in the pinned program and in every row, IS THE sha256 OF THE DUMP (.gsa) THAT YthfdjccdelbeeaaProg.lean LOADS. Nothing in Lean hashes anything: it is a label: what it is worth is what the hold of that sum in a sandbox is worth. -/
noncomputable def Try.pinned : Pinned := { name := "ythfdjccdelbeeaa", sum := "e6f8fe5df5e750e69e340345d8f02d683af374dc25d1b5672f801cfdb4876db8", checked := Try.checked }
namespace Rows
def none {H : Type} : Left H := { results := [], args := [] }

/-- 'kimberlitelaw05.TenderBest': WHATEVER THE INPUT: true; the input reads as it did. -/
def tenderBestSpec : ChangeSpec := { name := "tenderBest", fn := fun _ => fun
  | [d1, d2] => { results := [.lit (.bool true)], args := [d1, d2] }
  | _ => none }
def tenderBestRow : OpenClaim := { program := "ythfdjccdelbeeaa", sum := "e6f8fe5df5e750e69e340345d8f02d683af374dc25d1b5672f801cfdb4876db8", func := "kimberlite/kimberlitelaw05.TenderBest", spec := "tenderBest", unfollowed := true, recurses := true, apart := false }
def TenderBestSaid : Prop := tenderBestRow.holds Try.pinned (OpenSpec.ofChange tenderBestSpec)

/-- ITS FALSE NEIGHBOUR: 'it returns false'. Refute it at one input. -/
def tenderBestWrong : ChangeSpec := { name := "tenderBest", fn := fun _ => fun
  | [d1, d2] => { results := [.lit (.bool false)], args := [d1, d2] }
  | _ => none }
def TenderBestWrongFalsely : Prop := tenderBestRow.holds Try.pinned (OpenSpec.ofChange tenderBestWrong)

/-- 'kimberlitelaw05.TenderSeals': WHATEVER THE INPUT: true; the input reads as it did. -/
def tenderSealsSpec : ChangeSpec := { name := "tenderSeals", fn := fun _ => fun
  | [d1, d2] => { results := [.lit (.bool true)], args := [d1, d2] }
  | _ => none }
def tenderSealsRow : OpenClaim := { program := "ythfdjccdelbeeaa", sum := "e6f8fe5df5e750e69e340345d8f02d683af374dc25d1b5672f801cfdb4876db8", func := "kimberlite/kimberlitelaw05.TenderSeals", spec := "tenderSeals", unfollowed := true, recurses := true, apart := false }
def TenderSealsSaid : Prop := tenderSealsRow.holds Try.pinned (OpenSpec.ofChange tenderSealsSpec)

/-- ITS FALSE NEIGHBOUR: 'it returns false'. Refute it at one input. -/
def tenderSealsWrong : ChangeSpec := { name := "tenderSeals", fn := fun _ => fun
  | [d1, d2] => { results := [.lit (.bool false)], args := [d1, d2] }
  | _ => none }
def TenderSealsWrongFalsely : Prop := tenderSealsRow.holds Try.pinned (OpenSpec.ofChange tenderSealsWrong)

/-- 'kimberlitelaw05.TenderWorth': WHATEVER THE INPUT: true; the input reads as it did. -/
def tenderWorthSpec : ChangeSpec := { name := "tenderWorth", fn := fun _ => fun
  | [d1, d2, d3] => { results := [.lit (.bool true)], args := [d1, d2, d3] }
  | _ => none }
def tenderWorthRow : OpenClaim := { program := "ythfdjccdelbeeaa", sum := "e6f8fe5df5e750e69e340345d8f02d683af374dc25d1b5672f801cfdb4876db8", func := "kimberlite/kimberlitelaw05.TenderWorth", spec := "tenderWorth", unfollowed := true, recurses := true, apart := false }
def TenderWorthSaid : Prop := tenderWorthRow.holds Try.pinned (OpenSpec.ofChange tenderWorthSpec)

/-- ITS FALSE NEIGHBOUR: 'it returns false'. Refute it at one input. -/
def tenderWorthWrong : ChangeSpec := { name := "tenderWorth", fn := fun _ => fun
  | [d1, d2, d3] => { results := [.lit (.bool false)], args := [d1, d2, d3] }
  | _ => none }
def TenderWorthWrongFalsely : Prop := tenderWorthRow.holds Try.pinned (OpenSpec.ofChange tenderWorthWrong)

/-- 'kimberlitelaw05.TenderHarm': WHATEVER THE INPUT: true; the input reads as it did. -/
def tenderHarmSpec : ChangeSpec := { name := "tenderHarm", fn := fun _ => fun
  | [d1, d2, d3] => { results := [.lit (.bool true)], args := [d1, d2, d3] }
  | _ => none }
def tenderHarmRow : OpenClaim := { program := "ythfdjccdelbeeaa", sum := "e6f8fe5df5e750e69e340345d8f02d683af374dc25d1b5672f801cfdb4876db8", func := "kimberlite/kimberlitelaw05.TenderHarm", spec := "tenderHarm", unfollowed := true, recurses := true, apart := false }
def TenderHarmSaid : Prop := tenderHarmRow.holds Try.pinned (OpenSpec.ofChange tenderHarmSpec)

/-- ITS FALSE NEIGHBOUR: 'it returns false'. Refute it at one input. -/
def tenderHarmWrong : ChangeSpec := { name := "tenderHarm", fn := fun _ => fun
  | [d1, d2, d3] => { results := [.lit (.bool false)], args := [d1, d2, d3] }
  | _ => none }
def TenderHarmWrongFalsely : Prop := tenderHarmRow.holds Try.pinned (OpenSpec.ofChange tenderHarmWrong)

/-- 'kimberlitelaw05.TenderSecond': WHATEVER THE INPUT: true; the input reads as it did. -/
def tenderSecondSpec : ChangeSpec := { name := "tenderSecond", fn := fun _ => fun
  | [d1, d2] => { results := [.lit (.bool true)], args := [d1, d2] }
  | _ => none }
def tenderSecondRow : OpenClaim := { program := "ythfdjccdelbeeaa", sum := "e6f8fe5df5e750e69e340345d8f02d683af374dc25d1b5672f801cfdb4876db8", func := "kimberlite/kimberlitelaw05.TenderSecond", spec := "tenderSecond", unfollowed := true, recurses := true, apart := false }
def TenderSecondSaid : Prop := tenderSecondRow.holds Try.pinned (OpenSpec.ofChange tenderSecondSpec)

/-- ITS FALSE NEIGHBOUR: 'it returns false'. Refute it at one input. -/
def tenderSecondWrong : ChangeSpec := { name := "tenderSecond", fn := fun _ => fun
  | [d1, d2] => { results := [.lit (.bool false)], args := [d1, d2] }
  | _ => none }
def TenderSecondWrongFalsely : Prop := tenderSecondRow.holds Try.pinned (OpenSpec.ofChange tenderSecondWrong)

/-- 'kimberlitelaw05.TenderDecides': WHATEVER THE INPUT: true; the input reads as it did. -/
def tenderDecidesSpec : ChangeSpec := { name := "tenderDecides", fn := fun _ => fun
  | [d1, d2, d3, d4] => { results := [.lit (.bool true)], args := [d1, d2, d3, d4] }
  | _ => none }
def tenderDecidesRow : OpenClaim := { program := "ythfdjccdelbeeaa", sum := "e6f8fe5df5e750e69e340345d8f02d683af374dc25d1b5672f801cfdb4876db8", func := "kimberlite/kimberlitelaw05.TenderDecides", spec := "tenderDecides", unfollowed := true, recurses := true, apart := false }
def TenderDecidesSaid : Prop := tenderDecidesRow.holds Try.pinned (OpenSpec.ofChange tenderDecidesSpec)

/-- ITS FALSE NEIGHBOUR: 'it returns false'. Refute it at one input. -/
def tenderDecidesWrong : ChangeSpec := { name := "tenderDecides", fn := fun _ => fun
  | [d1, d2, d3, d4] => { results := [.lit (.bool false)], args := [d1, d2, d3, d4] }
  | _ => none }
def TenderDecidesWrongFalsely : Prop := tenderDecidesRow.holds Try.pinned (OpenSpec.ofChange tenderDecidesWrong)

/-- 'kimberlitelaw05.TenderTruth': WHATEVER THE INPUT: true; the input reads as it did. -/
def tenderTruthSpec : ChangeSpec := { name := "tenderTruth", fn := fun _ => fun
  | [d1, d2, d3, d4, d5] => { results := [.lit (.bool true)], args := [d1, d2, d3, d4, d5] }
  | _ => none }
def tenderTruthRow : OpenClaim := { program := "ythfdjccdelbeeaa", sum := "e6f8fe5df5e750e69e340345d8f02d683af374dc25d1b5672f801cfdb4876db8", func := "kimberlite/kimberlitelaw05.TenderTruth", spec := "tenderTruth", unfollowed := true, recurses := true, apart := false }
def TenderTruthSaid : Prop := tenderTruthRow.holds Try.pinned (OpenSpec.ofChange tenderTruthSpec)

/-- ITS FALSE NEIGHBOUR: 'it returns false'. Refute it at one input. -/
def tenderTruthWrong : ChangeSpec := { name := "tenderTruth", fn := fun _ => fun
  | [d1, d2, d3, d4, d5] => { results := [.lit (.bool false)], args := [d1, d2, d3, d4, d5] }
  | _ => none }
def TenderTruthWrongFalsely : Prop := tenderTruthRow.holds Try.pinned (OpenSpec.ofChange tenderTruthWrong)

/-- 'kimberlitelaw05.TenderBinds': WHATEVER THE INPUT: true; the input reads as it did. -/
def tenderBindsSpec : ChangeSpec := { name := "tenderBinds", fn := fun _ => fun
  | [d1, d2, d3, d4, d5] => { results := [.lit (.bool true)], args := [d1, d2, d3, d4, d5] }
  | _ => none }
def tenderBindsRow : OpenClaim := { program := "ythfdjccdelbeeaa", sum := "e6f8fe5df5e750e69e340345d8f02d683af374dc25d1b5672f801cfdb4876db8", func := "kimberlite/kimberlitelaw05.TenderBinds", spec := "tenderBinds", unfollowed := true, recurses := true, apart := false }
def TenderBindsSaid : Prop := tenderBindsRow.holds Try.pinned (OpenSpec.ofChange tenderBindsSpec)

/-- ITS FALSE NEIGHBOUR: 'it returns false'. Refute it at one input. -/
def tenderBindsWrong : ChangeSpec := { name := "tenderBinds", fn := fun _ => fun
  | [d1, d2, d3, d4, d5] => { results := [.lit (.bool false)], args := [d1, d2, d3, d4, d5] }
  | _ => none }
def TenderBindsWrongFalsely : Prop := tenderBindsRow.holds Try.pinned (OpenSpec.ofChange tenderBindsWrong)

/-- 'kimberlitelaw05.TenderFull': WHATEVER THE INPUT: true; the input reads as it did. -/
def tenderFullSpec : ChangeSpec := { name := "tenderFull", fn := fun _ => fun
  | [d1, d2] => { results := [.lit (.bool true)], args := [d1, d2] }
  | _ => none }
def tenderFullRow : OpenClaim := { program := "ythfdjccdelbeeaa", sum := "e6f8fe5df5e750e69e340345d8f02d683af374dc25d1b5672f801cfdb4876db8", func := "kimberlite/kimberlitelaw05.TenderFull", spec := "tenderFull", unfollowed := true, recurses := true, apart := false }
def TenderFullSaid : Prop := tenderFullRow.holds Try.pinned (OpenSpec.ofChange tenderFullSpec)

/-- ITS FALSE NEIGHBOUR: 'it returns false'. Refute it at one input. -/
def tenderFullWrong : ChangeSpec := { name := "tenderFull", fn := fun _ => fun
  | [d1, d2] => { results := [.lit (.bool false)], args := [d1, d2] }
  | _ => none }
def TenderFullWrongFalsely : Prop := tenderFullRow.holds Try.pinned (OpenSpec.ofChange tenderFullWrong)

/-- 'kimberlitelaw05.TenderNobody': WHATEVER THE INPUT: true; the input reads as it did. -/
def tenderNobodySpec : ChangeSpec := { name := "tenderNobody", fn := fun _ => fun
  | [d1, d2] => { results := [.lit (.bool true)], args := [d1, d2] }
  | _ => none }
def tenderNobodyRow : OpenClaim := { program := "ythfdjccdelbeeaa", sum := "e6f8fe5df5e750e69e340345d8f02d683af374dc25d1b5672f801cfdb4876db8", func := "kimberlite/kimberlitelaw05.TenderNobody", spec := "tenderNobody", unfollowed := true, recurses := true, apart := false }
def TenderNobodySaid : Prop := tenderNobodyRow.holds Try.pinned (OpenSpec.ofChange tenderNobodySpec)

/-- ITS FALSE NEIGHBOUR: 'it returns false'. Refute it at one input. -/
def tenderNobodyWrong : ChangeSpec := { name := "tenderNobody", fn := fun _ => fun
  | [d1, d2] => { results := [.lit (.bool false)], args := [d1, d2] }
  | _ => none }
def TenderNobodyWrongFalsely : Prop := tenderNobodyRow.holds Try.pinned (OpenSpec.ofChange tenderNobodyWrong)

/-- 'kimberlitelaw05.TenderPlays': WHATEVER THE INPUT: true; the input reads as it did. -/
def tenderPlaysSpec : ChangeSpec := { name := "tenderPlays", fn := fun _ => fun
  | [d1, d2, d3] => { results := [.lit (.bool true)], args := [d1, d2, d3] }
  | _ => none }
def tenderPlaysRow : OpenClaim := { program := "ythfdjccdelbeeaa", sum := "e6f8fe5df5e750e69e340345d8f02d683af374dc25d1b5672f801cfdb4876db8", func := "kimberlite/kimberlitelaw05.TenderPlays", spec := "tenderPlays", unfollowed := true, recurses := true, apart := false }
def TenderPlaysSaid : Prop := tenderPlaysRow.holds Try.pinned (OpenSpec.ofChange tenderPlaysSpec)

/-- ITS FALSE NEIGHBOUR: 'it returns false'. Refute it at one input. -/
def tenderPlaysWrong : ChangeSpec := { name := "tenderPlays", fn := fun _ => fun
  | [d1, d2, d3] => { results := [.lit (.bool false)], args := [d1, d2, d3] }
  | _ => none }
def TenderPlaysWrongFalsely : Prop := tenderPlaysRow.holds Try.pinned (OpenSpec.ofChange tenderPlaysWrong)

/-- 'kimberlitetop.TopAssigned': WHATEVER THE INPUT: true; the input reads as it did. -/
def topAssignedSpec : ChangeSpec := { name := "topAssigned", fn := fun _ => fun
  | [d1, d2, d3, d4] => { results := [.lit (.bool true)], args := [d1, d2, d3, d4] }
  | _ => none }
def topAssignedRow : OpenClaim := { program := "ythfdjccdelbeeaa", sum := "e6f8fe5df5e750e69e340345d8f02d683af374dc25d1b5672f801cfdb4876db8", func := "kimberlite/kimberlitetop.TopAssigned", spec := "topAssigned", unfollowed := true, recurses := true, apart := false }
def TopAssignedSaid : Prop := topAssignedRow.holds Try.pinned (OpenSpec.ofChange topAssignedSpec)

/-- ITS FALSE NEIGHBOUR: 'it returns false'. Refute it at one input. -/
def topAssignedWrong : ChangeSpec := { name := "topAssigned", fn := fun _ => fun
  | [d1, d2, d3, d4] => { results := [.lit (.bool false)], args := [d1, d2, d3, d4] }
  | _ => none }
def TopAssignedWrongFalsely : Prop := topAssignedRow.holds Try.pinned (OpenSpec.ofChange topAssignedWrong)

/- THE SECOND FORM. 'bulk': how many values and letters a reading holds, each counted each time it is reached (what is shared counts as often as it is met; a slice's spare places count too). A statement '..UptoSaid' is the law's where the arguments, and the package variables that the reading takes, are together of bulk at most 1048576: NARROWER than '..Said'. Prove '..Said' where nothing that the law and all that it calls make is longer than what came in: it says more and counts as full. Else prove '..UptoSaid'. A law counts once. -/
mutual
def uptoBulk {H : Type} : DataW H → Nat
  | .lit (.string bytes) => bytes.length + 1
  | .lit _ => 1
  | .nil => 1
  | .ptr d => uptoBulk d + 1
  | .slice elems spare => uptoBulkAll elems + uptoBulkAll spare + 1
  | .agg parts => uptoBulkAll parts + 1
  | .iface _ d => uptoBulk d + 1
  | .map entries => uptoBulkEntries entries + 1
  | .held _ => 1
def uptoBulkAll {H : Type} : List (DataW H) → Nat
  | [] => 0
  | d :: r => uptoBulk d + uptoBulkAll r
def uptoBulkEntries {H : Type} : List (Lit × DataW H) → Nat
  | [] => 0
  | x :: r => uptoBulkEntry x + uptoBulkEntries r
def uptoBulkEntry {H : Type} : Lit × DataW H → Nat
  | (.string bytes, d) => bytes.length + uptoBulk d + 1
  | (_, d) => uptoBulk d + 1
 end
def uptoSmall : (H : Type) → List (DataW H) → Bool := fun _ ds => decide (uptoBulkAll ds ≤ 1048576)
def OpenSpec.upto (s : _root_.Go.ChangeSpec) : _root_.Go.OpenSpec := { _root_.Go.OpenSpec.ofChange s with cond := some uptoSmall }

/-- 'kimberlitelaw05.TenderBest', WHERE WHAT IT READS IS OF BULK AT MOST 1048576: true; the input reads as it did. -/
def tenderBestUptoRow : OpenClaim := { program := "ythfdjccdelbeeaa", sum := "e6f8fe5df5e750e69e340345d8f02d683af374dc25d1b5672f801cfdb4876db8", func := "kimberlite/kimberlitelaw05.TenderBest", spec := "tenderBest", unfollowed := true, recurses := true, apart := false, narrowed := true }
def TenderBestUptoSaid : Prop := tenderBestUptoRow.holds Try.pinned (OpenSpec.upto tenderBestSpec)

/-- 'kimberlitelaw05.TenderSeals', WHERE WHAT IT READS IS OF BULK AT MOST 1048576: true; the input reads as it did. -/
def tenderSealsUptoRow : OpenClaim := { program := "ythfdjccdelbeeaa", sum := "e6f8fe5df5e750e69e340345d8f02d683af374dc25d1b5672f801cfdb4876db8", func := "kimberlite/kimberlitelaw05.TenderSeals", spec := "tenderSeals", unfollowed := true, recurses := true, apart := false, narrowed := true }
def TenderSealsUptoSaid : Prop := tenderSealsUptoRow.holds Try.pinned (OpenSpec.upto tenderSealsSpec)

/-- 'kimberlitelaw05.TenderWorth', WHERE WHAT IT READS IS OF BULK AT MOST 1048576: true; the input reads as it did. -/
def tenderWorthUptoRow : OpenClaim := { program := "ythfdjccdelbeeaa", sum := "e6f8fe5df5e750e69e340345d8f02d683af374dc25d1b5672f801cfdb4876db8", func := "kimberlite/kimberlitelaw05.TenderWorth", spec := "tenderWorth", unfollowed := true, recurses := true, apart := false, narrowed := true }
def TenderWorthUptoSaid : Prop := tenderWorthUptoRow.holds Try.pinned (OpenSpec.upto tenderWorthSpec)

/-- 'kimberlitelaw05.TenderHarm', WHERE WHAT IT READS IS OF BULK AT MOST 1048576: true; the input reads as it did. -/
def tenderHarmUptoRow : OpenClaim := { program := "ythfdjccdelbeeaa", sum := "e6f8fe5df5e750e69e340345d8f02d683af374dc25d1b5672f801cfdb4876db8", func := "kimberlite/kimberlitelaw05.TenderHarm", spec := "tenderHarm", unfollowed := true, recurses := true, apart := false, narrowed := true }
def TenderHarmUptoSaid : Prop := tenderHarmUptoRow.holds Try.pinned (OpenSpec.upto tenderHarmSpec)

/-- 'kimberlitelaw05.TenderSecond', WHERE WHAT IT READS IS OF BULK AT MOST 1048576: true; the input reads as it did. -/
def tenderSecondUptoRow : OpenClaim := { program := "ythfdjccdelbeeaa", sum := "e6f8fe5df5e750e69e340345d8f02d683af374dc25d1b5672f801cfdb4876db8", func := "kimberlite/kimberlitelaw05.TenderSecond", spec := "tenderSecond", unfollowed := true, recurses := true, apart := false, narrowed := true }
def TenderSecondUptoSaid : Prop := tenderSecondUptoRow.holds Try.pinned (OpenSpec.upto tenderSecondSpec)

/-- 'kimberlitelaw05.TenderDecides', WHERE WHAT IT READS IS OF BULK AT MOST 1048576: true; the input reads as it did. -/
def tenderDecidesUptoRow : OpenClaim := { program := "ythfdjccdelbeeaa", sum := "e6f8fe5df5e750e69e340345d8f02d683af374dc25d1b5672f801cfdb4876db8", func := "kimberlite/kimberlitelaw05.TenderDecides", spec := "tenderDecides", unfollowed := true, recurses := true, apart := false, narrowed := true }
def TenderDecidesUptoSaid : Prop := tenderDecidesUptoRow.holds Try.pinned (OpenSpec.upto tenderDecidesSpec)

/-- 'kimberlitelaw05.TenderTruth', WHERE WHAT IT READS IS OF BULK AT MOST 1048576: true; the input reads as it did. -/
def tenderTruthUptoRow : OpenClaim := { program := "ythfdjccdelbeeaa", sum := "e6f8fe5df5e750e69e340345d8f02d683af374dc25d1b5672f801cfdb4876db8", func := "kimberlite/kimberlitelaw05.TenderTruth", spec := "tenderTruth", unfollowed := true, recurses := true, apart := false, narrowed := true }
def TenderTruthUptoSaid : Prop := tenderTruthUptoRow.holds Try.pinned (OpenSpec.upto tenderTruthSpec)

/-- 'kimberlitelaw05.TenderBinds', WHERE WHAT IT READS IS OF BULK AT MOST 1048576: true; the input reads as it did. -/
def tenderBindsUptoRow : OpenClaim := { program := "ythfdjccdelbeeaa", sum := "e6f8fe5df5e750e69e340345d8f02d683af374dc25d1b5672f801cfdb4876db8", func := "kimberlite/kimberlitelaw05.TenderBinds", spec := "tenderBinds", unfollowed := true, recurses := true, apart := false, narrowed := true }
def TenderBindsUptoSaid : Prop := tenderBindsUptoRow.holds Try.pinned (OpenSpec.upto tenderBindsSpec)

/-- 'kimberlitelaw05.TenderFull', WHERE WHAT IT READS IS OF BULK AT MOST 1048576: true; the input reads as it did. -/
def tenderFullUptoRow : OpenClaim := { program := "ythfdjccdelbeeaa", sum := "e6f8fe5df5e750e69e340345d8f02d683af374dc25d1b5672f801cfdb4876db8", func := "kimberlite/kimberlitelaw05.TenderFull", spec := "tenderFull", unfollowed := true, recurses := true, apart := false, narrowed := true }
def TenderFullUptoSaid : Prop := tenderFullUptoRow.holds Try.pinned (OpenSpec.upto tenderFullSpec)

/-- 'kimberlitelaw05.TenderNobody', WHERE WHAT IT READS IS OF BULK AT MOST 1048576: true; the input reads as it did. -/
def tenderNobodyUptoRow : OpenClaim := { program := "ythfdjccdelbeeaa", sum := "e6f8fe5df5e750e69e340345d8f02d683af374dc25d1b5672f801cfdb4876db8", func := "kimberlite/kimberlitelaw05.TenderNobody", spec := "tenderNobody", unfollowed := true, recurses := true, apart := false, narrowed := true }
def TenderNobodyUptoSaid : Prop := tenderNobodyUptoRow.holds Try.pinned (OpenSpec.upto tenderNobodySpec)

/-- 'kimberlitelaw05.TenderPlays', WHERE WHAT IT READS IS OF BULK AT MOST 1048576: true; the input reads as it did. -/
def tenderPlaysUptoRow : OpenClaim := { program := "ythfdjccdelbeeaa", sum := "e6f8fe5df5e750e69e340345d8f02d683af374dc25d1b5672f801cfdb4876db8", func := "kimberlite/kimberlitelaw05.TenderPlays", spec := "tenderPlays", unfollowed := true, recurses := true, apart := false, narrowed := true }
def TenderPlaysUptoSaid : Prop := tenderPlaysUptoRow.holds Try.pinned (OpenSpec.upto tenderPlaysSpec)

/-- 'kimberlitetop.TopAssigned', WHERE WHAT IT READS IS OF BULK AT MOST 1048576: true; the input reads as it did. -/
def topAssignedUptoRow : OpenClaim := { program := "ythfdjccdelbeeaa", sum := "e6f8fe5df5e750e69e340345d8f02d683af374dc25d1b5672f801cfdb4876db8", func := "kimberlite/kimberlitetop.TopAssigned", spec := "topAssigned", unfollowed := true, recurses := true, apart := false, narrowed := true }
def TopAssignedUptoSaid : Prop := topAssignedUptoRow.holds Try.pinned (OpenSpec.upto topAssignedSpec)

end Rows
end Go.Proofs.Ythfdjccdelbeeaa
