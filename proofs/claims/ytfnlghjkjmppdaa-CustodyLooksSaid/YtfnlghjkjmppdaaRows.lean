/-
  No cell of these rows narrows 'for every input' (looked for: loops, veiled, ifaces, maps, wideKeys, modest, calm, conditions, laid).
  DERIVED. THE GIVEN ROWS OF THIS SEAT. 11 by the template 'for every input the law returns true; each argument reads behind the call as it read before'; 0 by the template 'total and deterministic' (their statements: YtfnlghjkjmppdaaTotals.lean).
  GIVEN WITH THE SEED: the statements are not yours to turn. If you find one false, say at which input.
  Laid BY PROGRAM, IN A SANDBOX (cutbox-rows.mjs): the forced cells as the released guide's own fill.sh prints them over the translation 84fd7392ebbaada3… (all of the seat's roots in one cut). By AI agents, Wed Nov 11 2026. No macro, syntax, notation, axiom, sorry.
-/
import Derived.Test.YtfnlghjkjmppdaaChecked
import GoSem.Claim
import GoSem.ClaimJoined
import GoSem.ClaimMapViews
import Derived.JoinedTies
import Derived.KernelRfl
namespace Go.Proofs.Ytfnlghjkjmppdaa
/- THE CELL 'sum', in the pinned program and in every row, IS THE sha256 OF THE DUMP (.gsa) THAT YtfnlghjkjmppdaaProg.lean LOADS. Nothing in Lean hashes anything: it is a label: what it is worth is what the hold of that sum in a sandbox is worth. -/
noncomputable def Try.pinned : Pinned := { name := "ytfnlghjkjmppdaa", sum := "84fd7392ebbaada38d209d4ff7c7f4b212d9a05d74be4c572fb36786d98e5344", checked := Try.checked }
namespace Rows
def none {H : Type} : Left H := { results := [], args := [] }

/-- 'kimberlitelaw06.CustodyFull': WHATEVER THE INPUT: true; the input reads as it did. -/
def custodyFullSpec : ChangeSpec := { name := "custodyFull", fn := fun _ => fun
  | [d] => { results := [.lit (.bool true)], args := [d] }
  | _ => none }
def custodyFullRow : OpenClaim := { program := "ytfnlghjkjmppdaa", sum := "84fd7392ebbaada38d209d4ff7c7f4b212d9a05d74be4c572fb36786d98e5344", func := "kimberlite/kimberlitelaw06.CustodyFull", spec := "custodyFull", unfollowed := true, recurses := true, apart := false }
def CustodyFullSaid : Prop := custodyFullRow.holds Try.pinned (OpenSpec.ofChange custodyFullSpec)

/-- ITS FALSE NEIGHBOUR: 'it returns false'. Refute it at one input. -/
def custodyFullWrong : ChangeSpec := { name := "custodyFull", fn := fun _ => fun
  | [d] => { results := [.lit (.bool false)], args := [d] }
  | _ => none }
def CustodyFullWrongFalsely : Prop := custodyFullRow.holds Try.pinned (OpenSpec.ofChange custodyFullWrong)

/-- 'kimberlitelaw06.CustodyUses': WHATEVER THE INPUT: true; the input reads as it did. -/
def custodyUsesSpec : ChangeSpec := { name := "custodyUses", fn := fun _ => fun
  | [d] => { results := [.lit (.bool true)], args := [d] }
  | _ => none }
def custodyUsesRow : OpenClaim := { program := "ytfnlghjkjmppdaa", sum := "84fd7392ebbaada38d209d4ff7c7f4b212d9a05d74be4c572fb36786d98e5344", func := "kimberlite/kimberlitelaw06.CustodyUses", spec := "custodyUses", unfollowed := true, recurses := true, apart := false }
def CustodyUsesSaid : Prop := custodyUsesRow.holds Try.pinned (OpenSpec.ofChange custodyUsesSpec)

/-- ITS FALSE NEIGHBOUR: 'it returns false'. Refute it at one input. -/
def custodyUsesWrong : ChangeSpec := { name := "custodyUses", fn := fun _ => fun
  | [d] => { results := [.lit (.bool false)], args := [d] }
  | _ => none }
def CustodyUsesWrongFalsely : Prop := custodyUsesRow.holds Try.pinned (OpenSpec.ofChange custodyUsesWrong)

/-- 'kimberlitelaw06.CustodyGroups': WHATEVER THE INPUT: true; the input reads as it did. -/
def custodyGroupsSpec : ChangeSpec := { name := "custodyGroups", fn := fun _ => fun
  | [d1, d2, d3, d4] => { results := [.lit (.bool true)], args := [d1, d2, d3, d4] }
  | _ => none }
def custodyGroupsRow : OpenClaim := { program := "ytfnlghjkjmppdaa", sum := "84fd7392ebbaada38d209d4ff7c7f4b212d9a05d74be4c572fb36786d98e5344", func := "kimberlite/kimberlitelaw06.CustodyGroups", spec := "custodyGroups", unfollowed := true, recurses := true, apart := false }
def CustodyGroupsSaid : Prop := custodyGroupsRow.holds Try.pinned (OpenSpec.ofChange custodyGroupsSpec)

/-- ITS FALSE NEIGHBOUR: 'it returns false'. Refute it at one input. -/
def custodyGroupsWrong : ChangeSpec := { name := "custodyGroups", fn := fun _ => fun
  | [d1, d2, d3, d4] => { results := [.lit (.bool false)], args := [d1, d2, d3, d4] }
  | _ => none }
def CustodyGroupsWrongFalsely : Prop := custodyGroupsRow.holds Try.pinned (OpenSpec.ofChange custodyGroupsWrong)

/-- 'kimberlitelaw06.CustodyLooks': WHATEVER THE INPUT: true; the input reads as it did. -/
def custodyLooksSpec : ChangeSpec := { name := "custodyLooks", fn := fun _ => fun
  | [d1, d2, d3] => { results := [.lit (.bool true)], args := [d1, d2, d3] }
  | _ => none }
def custodyLooksRow : OpenClaim := { program := "ytfnlghjkjmppdaa", sum := "84fd7392ebbaada38d209d4ff7c7f4b212d9a05d74be4c572fb36786d98e5344", func := "kimberlite/kimberlitelaw06.CustodyLooks", spec := "custodyLooks", unfollowed := true, recurses := true, apart := false }
def CustodyLooksSaid : Prop := custodyLooksRow.holds Try.pinned (OpenSpec.ofChange custodyLooksSpec)

/-- ITS FALSE NEIGHBOUR: 'it returns false'. Refute it at one input. -/
def custodyLooksWrong : ChangeSpec := { name := "custodyLooks", fn := fun _ => fun
  | [d1, d2, d3] => { results := [.lit (.bool false)], args := [d1, d2, d3] }
  | _ => none }
def CustodyLooksWrongFalsely : Prop := custodyLooksRow.holds Try.pinned (OpenSpec.ofChange custodyLooksWrong)

/-- 'kimberlitelaw06.CustodyTaken': WHATEVER THE INPUT: true; the input reads as it did. -/
def custodyTakenSpec : ChangeSpec := { name := "custodyTaken", fn := fun _ => fun
  | [d1, d2, d3, d4] => { results := [.lit (.bool true)], args := [d1, d2, d3, d4] }
  | _ => none }
def custodyTakenRow : OpenClaim := { program := "ytfnlghjkjmppdaa", sum := "84fd7392ebbaada38d209d4ff7c7f4b212d9a05d74be4c572fb36786d98e5344", func := "kimberlite/kimberlitelaw06.CustodyTaken", spec := "custodyTaken", unfollowed := true, recurses := true, apart := false }
def CustodyTakenSaid : Prop := custodyTakenRow.holds Try.pinned (OpenSpec.ofChange custodyTakenSpec)

/-- ITS FALSE NEIGHBOUR: 'it returns false'. Refute it at one input. -/
def custodyTakenWrong : ChangeSpec := { name := "custodyTaken", fn := fun _ => fun
  | [d1, d2, d3, d4] => { results := [.lit (.bool false)], args := [d1, d2, d3, d4] }
  | _ => none }
def CustodyTakenWrongFalsely : Prop := custodyTakenRow.holds Try.pinned (OpenSpec.ofChange custodyTakenWrong)

/-- 'kimberlitelaw06.CustodyNarrows': WHATEVER THE INPUT: true; the input reads as it did. -/
def custodyNarrowsSpec : ChangeSpec := { name := "custodyNarrows", fn := fun _ => fun
  | [d] => { results := [.lit (.bool true)], args := [d] }
  | _ => none }
def custodyNarrowsRow : OpenClaim := { program := "ytfnlghjkjmppdaa", sum := "84fd7392ebbaada38d209d4ff7c7f4b212d9a05d74be4c572fb36786d98e5344", func := "kimberlite/kimberlitelaw06.CustodyNarrows", spec := "custodyNarrows", unfollowed := true, recurses := true, apart := false }
def CustodyNarrowsSaid : Prop := custodyNarrowsRow.holds Try.pinned (OpenSpec.ofChange custodyNarrowsSpec)

/-- ITS FALSE NEIGHBOUR: 'it returns false'. Refute it at one input. -/
def custodyNarrowsWrong : ChangeSpec := { name := "custodyNarrows", fn := fun _ => fun
  | [d] => { results := [.lit (.bool false)], args := [d] }
  | _ => none }
def CustodyNarrowsWrongFalsely : Prop := custodyNarrowsRow.holds Try.pinned (OpenSpec.ofChange custodyNarrowsWrong)

/-- 'kimberlitelaw06.CustodyTwo': WHATEVER THE INPUT: true; the input reads as it did. -/
def custodyTwoSpec : ChangeSpec := { name := "custodyTwo", fn := fun _ => fun
  | [d] => { results := [.lit (.bool true)], args := [d] }
  | _ => none }
def custodyTwoRow : OpenClaim := { program := "ytfnlghjkjmppdaa", sum := "84fd7392ebbaada38d209d4ff7c7f4b212d9a05d74be4c572fb36786d98e5344", func := "kimberlite/kimberlitelaw06.CustodyTwo", spec := "custodyTwo", unfollowed := true, recurses := true, apart := false }
def CustodyTwoSaid : Prop := custodyTwoRow.holds Try.pinned (OpenSpec.ofChange custodyTwoSpec)

/-- ITS FALSE NEIGHBOUR: 'it returns false'. Refute it at one input. -/
def custodyTwoWrong : ChangeSpec := { name := "custodyTwo", fn := fun _ => fun
  | [d] => { results := [.lit (.bool false)], args := [d] }
  | _ => none }
def CustodyTwoWrongFalsely : Prop := custodyTwoRow.holds Try.pinned (OpenSpec.ofChange custodyTwoWrong)

/-- 'kimberlitelaw06.CustodyCould': WHATEVER THE INPUT: true; the input reads as it did. -/
def custodyCouldSpec : ChangeSpec := { name := "custodyCould", fn := fun _ => fun
  | [d1, d2, d3] => { results := [.lit (.bool true)], args := [d1, d2, d3] }
  | _ => none }
def custodyCouldRow : OpenClaim := { program := "ytfnlghjkjmppdaa", sum := "84fd7392ebbaada38d209d4ff7c7f4b212d9a05d74be4c572fb36786d98e5344", func := "kimberlite/kimberlitelaw06.CustodyCould", spec := "custodyCould", unfollowed := true, recurses := true, apart := false }
def CustodyCouldSaid : Prop := custodyCouldRow.holds Try.pinned (OpenSpec.ofChange custodyCouldSpec)

/-- ITS FALSE NEIGHBOUR: 'it returns false'. Refute it at one input. -/
def custodyCouldWrong : ChangeSpec := { name := "custodyCould", fn := fun _ => fun
  | [d1, d2, d3] => { results := [.lit (.bool false)], args := [d1, d2, d3] }
  | _ => none }
def CustodyCouldWrongFalsely : Prop := custodyCouldRow.holds Try.pinned (OpenSpec.ofChange custodyCouldWrong)

/-- 'kimberlitelaw06.CustodyPlays': WHATEVER THE INPUT: true; the input reads as it did. -/
def custodyPlaysSpec : ChangeSpec := { name := "custodyPlays", fn := fun _ => fun
  | [d] => { results := [.lit (.bool true)], args := [d] }
  | _ => none }
def custodyPlaysRow : OpenClaim := { program := "ytfnlghjkjmppdaa", sum := "84fd7392ebbaada38d209d4ff7c7f4b212d9a05d74be4c572fb36786d98e5344", func := "kimberlite/kimberlitelaw06.CustodyPlays", spec := "custodyPlays", unfollowed := true, recurses := true, apart := false }
def CustodyPlaysSaid : Prop := custodyPlaysRow.holds Try.pinned (OpenSpec.ofChange custodyPlaysSpec)

/-- ITS FALSE NEIGHBOUR: 'it returns false'. Refute it at one input. -/
def custodyPlaysWrong : ChangeSpec := { name := "custodyPlays", fn := fun _ => fun
  | [d] => { results := [.lit (.bool false)], args := [d] }
  | _ => none }
def CustodyPlaysWrongFalsely : Prop := custodyPlaysRow.holds Try.pinned (OpenSpec.ofChange custodyPlaysWrong)

/-- 'kimberlitelaw06.CustodyCopies': WHATEVER THE INPUT: true; the input reads as it did. -/
def custodyCopiesSpec : ChangeSpec := { name := "custodyCopies", fn := fun _ => fun
  | [d1, d2, d3] => { results := [.lit (.bool true)], args := [d1, d2, d3] }
  | _ => none }
def custodyCopiesRow : OpenClaim := { program := "ytfnlghjkjmppdaa", sum := "84fd7392ebbaada38d209d4ff7c7f4b212d9a05d74be4c572fb36786d98e5344", func := "kimberlite/kimberlitelaw06.CustodyCopies", spec := "custodyCopies", unfollowed := true, recurses := true, apart := false }
def CustodyCopiesSaid : Prop := custodyCopiesRow.holds Try.pinned (OpenSpec.ofChange custodyCopiesSpec)

/-- ITS FALSE NEIGHBOUR: 'it returns false'. Refute it at one input. -/
def custodyCopiesWrong : ChangeSpec := { name := "custodyCopies", fn := fun _ => fun
  | [d1, d2, d3] => { results := [.lit (.bool false)], args := [d1, d2, d3] }
  | _ => none }
def CustodyCopiesWrongFalsely : Prop := custodyCopiesRow.holds Try.pinned (OpenSpec.ofChange custodyCopiesWrong)

/-- 'kimberlitelaw06.CustodyNobody': WHATEVER THE INPUT: true; the input reads as it did. -/
def custodyNobodySpec : ChangeSpec := { name := "custodyNobody", fn := fun _ => fun
  | [d1, d2] => { results := [.lit (.bool true)], args := [d1, d2] }
  | _ => none }
def custodyNobodyRow : OpenClaim := { program := "ytfnlghjkjmppdaa", sum := "84fd7392ebbaada38d209d4ff7c7f4b212d9a05d74be4c572fb36786d98e5344", func := "kimberlite/kimberlitelaw06.CustodyNobody", spec := "custodyNobody", unfollowed := true, recurses := true, apart := false }
def CustodyNobodySaid : Prop := custodyNobodyRow.holds Try.pinned (OpenSpec.ofChange custodyNobodySpec)

/-- ITS FALSE NEIGHBOUR: 'it returns false'. Refute it at one input. -/
def custodyNobodyWrong : ChangeSpec := { name := "custodyNobody", fn := fun _ => fun
  | [d1, d2] => { results := [.lit (.bool false)], args := [d1, d2] }
  | _ => none }
def CustodyNobodyWrongFalsely : Prop := custodyNobodyRow.holds Try.pinned (OpenSpec.ofChange custodyNobodyWrong)

/- THE SECOND FORM. 'bulk': how many values and letters a reading holds, each counted each time it is reached (what is shared counts as often as it is met; a slice's spare places count too). A statement '..UptoSaid' is the law's where the arguments, and the package variables that the reading takes, are together of bulk at most 1048576: NARROWER than '..Said'. Prove '..Said' where nothing that the law and all that it calls make is longer than what came in: it says more and counts as full. Else prove '..UptoSaid'. A law counts once. -/
mutual
def uptoBulk {H : Type} : DataW H → Nat
  | .lit (.string bytes) => bytes.length + 1
  | .lit _ => 1
  | .nil => 1
  | .ptr d => uptoBulk d + 1
  | .slice elems spare => uptoBulkAll elems + uptoBulkAll spare + 1
  | .agg parts => uptoBulkAll parts + 1
  | .iface _ d => uptoBulk d + 1
  | .map entries => uptoBulkEntries entries + 1
  | .held _ => 1
def uptoBulkAll {H : Type} : List (DataW H) → Nat
  | [] => 0
  | d :: r => uptoBulk d + uptoBulkAll r
def uptoBulkEntries {H : Type} : List (Lit × DataW H) → Nat
  | [] => 0
  | x :: r => uptoBulkEntry x + uptoBulkEntries r
def uptoBulkEntry {H : Type} : Lit × DataW H → Nat
  | (.string bytes, d) => bytes.length + uptoBulk d + 1
  | (_, d) => uptoBulk d + 1
 end
def uptoSmall : (H : Type) → List (DataW H) → Bool := fun _ ds => decide (uptoBulkAll ds ≤ 1048576)
def OpenSpec.upto (s : _root_.Go.ChangeSpec) : _root_.Go.OpenSpec := { _root_.Go.OpenSpec.ofChange s with cond := some uptoSmall }

/-- 'kimberlitelaw06.CustodyFull', WHERE WHAT IT READS IS OF BULK AT MOST 1048576: true; the input reads as it did. -/
def custodyFullUptoRow : OpenClaim := { program := "ytfnlghjkjmppdaa", sum := "84fd7392ebbaada38d209d4ff7c7f4b212d9a05d74be4c572fb36786d98e5344", func := "kimberlite/kimberlitelaw06.CustodyFull", spec := "custodyFull", unfollowed := true, recurses := true, apart := false, narrowed := true }
def CustodyFullUptoSaid : Prop := custodyFullUptoRow.holds Try.pinned (OpenSpec.upto custodyFullSpec)

/-- 'kimberlitelaw06.CustodyUses', WHERE WHAT IT READS IS OF BULK AT MOST 1048576: true; the input reads as it did. -/
def custodyUsesUptoRow : OpenClaim := { program := "ytfnlghjkjmppdaa", sum := "84fd7392ebbaada38d209d4ff7c7f4b212d9a05d74be4c572fb36786d98e5344", func := "kimberlite/kimberlitelaw06.CustodyUses", spec := "custodyUses", unfollowed := true, recurses := true, apart := false, narrowed := true }
def CustodyUsesUptoSaid : Prop := custodyUsesUptoRow.holds Try.pinned (OpenSpec.upto custodyUsesSpec)

/-- 'kimberlitelaw06.CustodyGroups', WHERE WHAT IT READS IS OF BULK AT MOST 1048576: true; the input reads as it did. -/
def custodyGroupsUptoRow : OpenClaim := { program := "ytfnlghjkjmppdaa", sum := "84fd7392ebbaada38d209d4ff7c7f4b212d9a05d74be4c572fb36786d98e5344", func := "kimberlite/kimberlitelaw06.CustodyGroups", spec := "custodyGroups", unfollowed := true, recurses := true, apart := false, narrowed := true }
def CustodyGroupsUptoSaid : Prop := custodyGroupsUptoRow.holds Try.pinned (OpenSpec.upto custodyGroupsSpec)

/-- 'kimberlitelaw06.CustodyLooks', WHERE WHAT IT READS IS OF BULK AT MOST 1048576: true; the input reads as it did. -/
def custodyLooksUptoRow : OpenClaim := { program := "ytfnlghjkjmppdaa", sum := "84fd7392ebbaada38d209d4ff7c7f4b212d9a05d74be4c572fb36786d98e5344", func := "kimberlite/kimberlitelaw06.CustodyLooks", spec := "custodyLooks", unfollowed := true, recurses := true, apart := false, narrowed := true }
def CustodyLooksUptoSaid : Prop := custodyLooksUptoRow.holds Try.pinned (OpenSpec.upto custodyLooksSpec)

/-- 'kimberlitelaw06.CustodyTaken', WHERE WHAT IT READS IS OF BULK AT MOST 1048576: true; the input reads as it did. -/
def custodyTakenUptoRow : OpenClaim := { program := "ytfnlghjkjmppdaa", sum := "84fd7392ebbaada38d209d4ff7c7f4b212d9a05d74be4c572fb36786d98e5344", func := "kimberlite/kimberlitelaw06.CustodyTaken", spec := "custodyTaken", unfollowed := true, recurses := true, apart := false, narrowed := true }
def CustodyTakenUptoSaid : Prop := custodyTakenUptoRow.holds Try.pinned (OpenSpec.upto custodyTakenSpec)

/-- 'kimberlitelaw06.CustodyNarrows', WHERE WHAT IT READS IS OF BULK AT MOST 1048576: true; the input reads as it did. -/
def custodyNarrowsUptoRow : OpenClaim := { program := "ytfnlghjkjmppdaa", sum := "84fd7392ebbaada38d209d4ff7c7f4b212d9a05d74be4c572fb36786d98e5344", func := "kimberlite/kimberlitelaw06.CustodyNarrows", spec := "custodyNarrows", unfollowed := true, recurses := true, apart := false, narrowed := true }
def CustodyNarrowsUptoSaid : Prop := custodyNarrowsUptoRow.holds Try.pinned (OpenSpec.upto custodyNarrowsSpec)

/-- 'kimberlitelaw06.CustodyTwo', WHERE WHAT IT READS IS OF BULK AT MOST 1048576: true; the input reads as it did. -/
def custodyTwoUptoRow : OpenClaim := { program := "ytfnlghjkjmppdaa", sum := "84fd7392ebbaada38d209d4ff7c7f4b212d9a05d74be4c572fb36786d98e5344", func := "kimberlite/kimberlitelaw06.CustodyTwo", spec := "custodyTwo", unfollowed := true, recurses := true, apart := false, narrowed := true }
def CustodyTwoUptoSaid : Prop := custodyTwoUptoRow.holds Try.pinned (OpenSpec.upto custodyTwoSpec)

/-- 'kimberlitelaw06.CustodyCould', WHERE WHAT IT READS IS OF BULK AT MOST 1048576: true; the input reads as it did. -/
def custodyCouldUptoRow : OpenClaim := { program := "ytfnlghjkjmppdaa", sum := "84fd7392ebbaada38d209d4ff7c7f4b212d9a05d74be4c572fb36786d98e5344", func := "kimberlite/kimberlitelaw06.CustodyCould", spec := "custodyCould", unfollowed := true, recurses := true, apart := false, narrowed := true }
def CustodyCouldUptoSaid : Prop := custodyCouldUptoRow.holds Try.pinned (OpenSpec.upto custodyCouldSpec)

/-- 'kimberlitelaw06.CustodyPlays', WHERE WHAT IT READS IS OF BULK AT MOST 1048576: true; the input reads as it did. -/
def custodyPlaysUptoRow : OpenClaim := { program := "ytfnlghjkjmppdaa", sum := "84fd7392ebbaada38d209d4ff7c7f4b212d9a05d74be4c572fb36786d98e5344", func := "kimberlite/kimberlitelaw06.CustodyPlays", spec := "custodyPlays", unfollowed := true, recurses := true, apart := false, narrowed := true }
def CustodyPlaysUptoSaid : Prop := custodyPlaysUptoRow.holds Try.pinned (OpenSpec.upto custodyPlaysSpec)

/-- 'kimberlitelaw06.CustodyCopies', WHERE WHAT IT READS IS OF BULK AT MOST 1048576: true; the input reads as it did. -/
def custodyCopiesUptoRow : OpenClaim := { program := "ytfnlghjkjmppdaa", sum := "84fd7392ebbaada38d209d4ff7c7f4b212d9a05d74be4c572fb36786d98e5344", func := "kimberlite/kimberlitelaw06.CustodyCopies", spec := "custodyCopies", unfollowed := true, recurses := true, apart := false, narrowed := true }
def CustodyCopiesUptoSaid : Prop := custodyCopiesUptoRow.holds Try.pinned (OpenSpec.upto custodyCopiesSpec)

/-- 'kimberlitelaw06.CustodyNobody', WHERE WHAT IT READS IS OF BULK AT MOST 1048576: true; the input reads as it did. -/
def custodyNobodyUptoRow : OpenClaim := { program := "ytfnlghjkjmppdaa", sum := "84fd7392ebbaada38d209d4ff7c7f4b212d9a05d74be4c572fb36786d98e5344", func := "kimberlite/kimberlitelaw06.CustodyNobody", spec := "custodyNobody", unfollowed := true, recurses := true, apart := false, narrowed := true }
def CustodyNobodyUptoSaid : Prop := custodyNobodyUptoRow.holds Try.pinned (OpenSpec.upto custodyNobodySpec)

end Rows
end Go.Proofs.Ytfnlghjkjmppdaa
