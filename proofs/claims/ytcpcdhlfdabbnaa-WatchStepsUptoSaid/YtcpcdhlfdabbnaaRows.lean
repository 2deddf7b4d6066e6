/-
  No cell of these rows narrows 'for every input' (looked for: loops, veiled, ifaces, maps, wideKeys, modest, calm, conditions, laid).
  DERIVED. THE GIVEN ROWS OF THIS SEAT. 7 by the template 'for every input the law returns true; each argument reads behind the call as it read before'; 0 by the template 'total and deterministic' (their statements: YtcpcdhlfdabbnaaTotals.lean).
  GIVEN WITH THE SEED: the statements are not yours to turn. If you find one false, say at which input.
  Laid BY PROGRAM, IN A SANDBOX (cutbox-rows.mjs): the forced cells as the released guide's own fill.sh prints them over the translation 1d73f7f9f8e6d4fb… (all of the seat's roots in one cut). By AI agents, Wed Nov 11 2026. No macro, syntax, notation, axiom, sorry.
-/
import Derived.Test.YtcpcdhlfdabbnaaChecked
import GoSem.Claim
import GoSem.ClaimJoined
import GoSem.ClaimMapViews
import Derived.JoinedTies
import Derived.KernelRfl
namespace Go.Proofs.Ytcpcdhlfdabbnaa
/- THE CELL 'sum', in the pinned program and in every row, IS THE sha256 OF THE DUMP (.gsa) THAT YtcpcdhlfdabbnaaProg.lean LOADS. Nothing in Lean hashes anything: it is a label: what it is worth is what the hold of that sum in a sandbox is worth. -/
noncomputable def Try.pinned : Pinned := { name := "ytcpcdhlfdabbnaa", sum := "1d73f7f9f8e6d4fbda3b4f55da40abc45569b40917f2ac7b073ac23f8bf788db", checked := Try.checked }
namespace Rows
def none {H : Type} : Left H := { results := [], args := [] }

/-- 'hustingslaw20.WatchLeaders': WHATEVER THE INPUT: true; the input reads as it did. -/
def watchLeadersSpec : ChangeSpec := { name := "watchLeaders", fn := fun _ => fun
  | [d] => { results := [.lit (.bool true)], args := [d] }
  | _ => none }
def watchLeadersRow : OpenClaim := { program := "ytcpcdhlfdabbnaa", sum := "1d73f7f9f8e6d4fbda3b4f55da40abc45569b40917f2ac7b073ac23f8bf788db", func := "hustings/hustingslaw20.WatchLeaders", spec := "watchLeaders", unfollowed := true, recurses := true, apart := false }
def WatchLeadersSaid : Prop := watchLeadersRow.holds Try.pinned (OpenSpec.ofChange watchLeadersSpec)

/-- ITS FALSE NEIGHBOUR: 'it returns false'. Refute it at one input. -/
def watchLeadersWrong : ChangeSpec := { name := "watchLeaders", fn := fun _ => fun
  | [d] => { results := [.lit (.bool false)], args := [d] }
  | _ => none }
def WatchLeadersWrongFalsely : Prop := watchLeadersRow.holds Try.pinned (OpenSpec.ofChange watchLeadersWrong)

/-- 'hustingslaw20.WatchMatches': WHATEVER THE INPUT: true; the input reads as it did. -/
def watchMatchesSpec : ChangeSpec := { name := "watchMatches", fn := fun _ => fun
  | [d1, d2] => { results := [.lit (.bool true)], args := [d1, d2] }
  | _ => none }
def watchMatchesRow : OpenClaim := { program := "ytcpcdhlfdabbnaa", sum := "1d73f7f9f8e6d4fbda3b4f55da40abc45569b40917f2ac7b073ac23f8bf788db", func := "hustings/hustingslaw20.WatchMatches", spec := "watchMatches", unfollowed := true, recurses := true, apart := false }
def WatchMatchesSaid : Prop := watchMatchesRow.holds Try.pinned (OpenSpec.ofChange watchMatchesSpec)

/-- ITS FALSE NEIGHBOUR: 'it returns false'. Refute it at one input. -/
def watchMatchesWrong : ChangeSpec := { name := "watchMatches", fn := fun _ => fun
  | [d1, d2] => { results := [.lit (.bool false)], args := [d1, d2] }
  | _ => none }
def WatchMatchesWrongFalsely : Prop := watchMatchesRow.holds Try.pinned (OpenSpec.ofChange watchMatchesWrong)

/-- 'hustingslaw20.WatchMade': WHATEVER THE INPUT: true; the input reads as it did. -/
def watchMadeSpec : ChangeSpec := { name := "watchMade", fn := fun _ => fun
  | [d1, d2, d3, d4] => { results := [.lit (.bool true)], args := [d1, d2, d3, d4] }
  | _ => none }
def watchMadeRow : OpenClaim := { program := "ytcpcdhlfdabbnaa", sum := "1d73f7f9f8e6d4fbda3b4f55da40abc45569b40917f2ac7b073ac23f8bf788db", func := "hustings/hustingslaw20.WatchMade", spec := "watchMade", unfollowed := true, recurses := true, apart := false }
def WatchMadeSaid : Prop := watchMadeRow.holds Try.pinned (OpenSpec.ofChange watchMadeSpec)

/-- ITS FALSE NEIGHBOUR: 'it returns false'. Refute it at one input. -/
def watchMadeWrong : ChangeSpec := { name := "watchMade", fn := fun _ => fun
  | [d1, d2, d3, d4] => { results := [.lit (.bool false)], args := [d1, d2, d3, d4] }
  | _ => none }
def WatchMadeWrongFalsely : Prop := watchMadeRow.holds Try.pinned (OpenSpec.ofChange watchMadeWrong)

/-- 'hustingslaw20.WatchBoth': WHATEVER THE INPUT: true; the input reads as it did. -/
def watchBothSpec : ChangeSpec := { name := "watchBoth", fn := fun _ => fun
  | [d1, d2, d3, d4, d5, d6] => { results := [.lit (.bool true)], args := [d1, d2, d3, d4, d5, d6] }
  | _ => none }
def watchBothRow : OpenClaim := { program := "ytcpcdhlfdabbnaa", sum := "1d73f7f9f8e6d4fbda3b4f55da40abc45569b40917f2ac7b073ac23f8bf788db", func := "hustings/hustingslaw20.WatchBoth", spec := "watchBoth", unfollowed := true, recurses := true, apart := false }
def WatchBothSaid : Prop := watchBothRow.holds Try.pinned (OpenSpec.ofChange watchBothSpec)

/-- ITS FALSE NEIGHBOUR: 'it returns false'. Refute it at one input. -/
def watchBothWrong : ChangeSpec := { name := "watchBoth", fn := fun _ => fun
  | [d1, d2, d3, d4, d5, d6] => { results := [.lit (.bool false)], args := [d1, d2, d3, d4, d5, d6] }
  | _ => none }
def WatchBothWrongFalsely : Prop := watchBothRow.holds Try.pinned (OpenSpec.ofChange watchBothWrong)

/-- 'hustingslaw12.EntriesHints': WHATEVER THE INPUT: true; the input reads as it did. -/
def entriesHintsSpec : ChangeSpec := { name := "entriesHints", fn := fun _ => fun
  | [d1, d2, d3, d4] => { results := [.lit (.bool true)], args := [d1, d2, d3, d4] }
  | _ => none }
def entriesHintsRow : OpenClaim := { program := "ytcpcdhlfdabbnaa", sum := "1d73f7f9f8e6d4fbda3b4f55da40abc45569b40917f2ac7b073ac23f8bf788db", func := "hustings/hustingslaw12.EntriesHints", spec := "entriesHints", unfollowed := true, recurses := true, apart := false }
def EntriesHintsSaid : Prop := entriesHintsRow.holds Try.pinned (OpenSpec.ofChange entriesHintsSpec)

/-- ITS FALSE NEIGHBOUR: 'it returns false'. Refute it at one input. -/
def entriesHintsWrong : ChangeSpec := { name := "entriesHints", fn := fun _ => fun
  | [d1, d2, d3, d4] => { results := [.lit (.bool false)], args := [d1, d2, d3, d4] }
  | _ => none }
def EntriesHintsWrongFalsely : Prop := entriesHintsRow.holds Try.pinned (OpenSpec.ofChange entriesHintsWrong)

/-- 'hustingslaw20.WatchSteps': WHATEVER THE INPUT: true; the input reads as it did. -/
def watchStepsSpec : ChangeSpec := { name := "watchSteps", fn := fun _ => fun
  | [d1, d2] => { results := [.lit (.bool true)], args := [d1, d2] }
  | _ => none }
def watchStepsRow : OpenClaim := { program := "ytcpcdhlfdabbnaa", sum := "1d73f7f9f8e6d4fbda3b4f55da40abc45569b40917f2ac7b073ac23f8bf788db", func := "hustings/hustingslaw20.WatchSteps", spec := "watchSteps", unfollowed := true, recurses := true, apart := false }
def WatchStepsSaid : Prop := watchStepsRow.holds Try.pinned (OpenSpec.ofChange watchStepsSpec)

/-- ITS FALSE NEIGHBOUR: 'it returns false'. Refute it at one input. -/
def watchStepsWrong : ChangeSpec := { name := "watchSteps", fn := fun _ => fun
  | [d1, d2] => { results := [.lit (.bool false)], args := [d1, d2] }
  | _ => none }
def WatchStepsWrongFalsely : Prop := watchStepsRow.holds Try.pinned (OpenSpec.ofChange watchStepsWrong)

/-- 'hustingslaw12.EntriesLooks': WHATEVER THE INPUT: true; the input reads as it did. -/
def entriesLooksSpec : ChangeSpec := { name := "entriesLooks", fn := fun _ => fun
  | [d1, d2, d3, d4] => { results := [.lit (.bool true)], args := [d1, d2, d3, d4] }
  | _ => none }
def entriesLooksRow : OpenClaim := { program := "ytcpcdhlfdabbnaa", sum := "1d73f7f9f8e6d4fbda3b4f55da40abc45569b40917f2ac7b073ac23f8bf788db", func := "hustings/hustingslaw12.EntriesLooks", spec := "entriesLooks", unfollowed := true, recurses := true, apart := false }
def EntriesLooksSaid : Prop := entriesLooksRow.holds Try.pinned (OpenSpec.ofChange entriesLooksSpec)

/-- ITS FALSE NEIGHBOUR: 'it returns false'. Refute it at one input. -/
def entriesLooksWrong : ChangeSpec := { name := "entriesLooks", fn := fun _ => fun
  | [d1, d2, d3, d4] => { results := [.lit (.bool false)], args := [d1, d2, d3, d4] }
  | _ => none }
def EntriesLooksWrongFalsely : Prop := entriesLooksRow.holds Try.pinned (OpenSpec.ofChange entriesLooksWrong)

/- THE SECOND FORM. 'bulk': how many values and letters a reading holds, each counted each time it is reached (what is shared counts as often as it is met; a slice's spare places count too). A statement '..UptoSaid' is the law's where the arguments, and the package variables that the reading takes, are together of bulk at most 1048576: NARROWER than '..Said'. Prove '..Said' where nothing that the law and all that it calls make is longer than what came in: it says more and counts as full. Else prove '..UptoSaid'. A law counts once. -/
mutual
def uptoBulk {H : Type} : DataW H → Nat
  | .lit (.string bytes) => bytes.length + 1
  | .lit _ => 1
  | .nil => 1
  | .ptr d => uptoBulk d + 1
  | .slice elems spare => uptoBulkAll elems + uptoBulkAll spare + 1
  | .agg parts => uptoBulkAll parts + 1
  | .iface _ d => uptoBulk d + 1
  | .map entries => uptoBulkEntries entries + 1
  | .held _ => 1
def uptoBulkAll {H : Type} : List (DataW H) → Nat
  | [] => 0
  | d :: r => uptoBulk d + uptoBulkAll r
def uptoBulkEntries {H : Type} : List (Lit × DataW H) → Nat
  | [] => 0
  | x :: r => uptoBulkEntry x + uptoBulkEntries r
def uptoBulkEntry {H : Type} : Lit × DataW H → Nat
  | (.string bytes, d) => bytes.length + uptoBulk d + 1
  | (_, d) => uptoBulk d + 1
 end
def uptoSmall : (H : Type) → List (DataW H) → Bool := fun _ ds => decide (uptoBulkAll ds ≤ 1048576)
def OpenSpec.upto (s : _root_.Go.ChangeSpec) : _root_.Go.OpenSpec := { _root_.Go.OpenSpec.ofChange s with cond := some uptoSmall }

/-- 'hustingslaw20.WatchLeaders', WHERE WHAT IT READS IS OF BULK AT MOST 1048576: true; the input reads as it did. -/
def watchLeadersUptoRow : OpenClaim := { program := "ytcpcdhlfdabbnaa", sum := "1d73f7f9f8e6d4fbda3b4f55da40abc45569b40917f2ac7b073ac23f8bf788db", func := "hustings/hustingslaw20.WatchLeaders", spec := "watchLeaders", unfollowed := true, recurses := true, apart := false, narrowed := true }
def WatchLeadersUptoSaid : Prop := watchLeadersUptoRow.holds Try.pinned (OpenSpec.upto watchLeadersSpec)

/-- 'hustingslaw20.WatchMatches', WHERE WHAT IT READS IS OF BULK AT MOST 1048576: true; the input reads as it did. -/
def watchMatchesUptoRow : OpenClaim := { program := "ytcpcdhlfdabbnaa", sum := "1d73f7f9f8e6d4fbda3b4f55da40abc45569b40917f2ac7b073ac23f8bf788db", func := "hustings/hustingslaw20.WatchMatches", spec := "watchMatches", unfollowed := true, recurses := true, apart := false, narrowed := true }
def WatchMatchesUptoSaid : Prop := watchMatchesUptoRow.holds Try.pinned (OpenSpec.upto watchMatchesSpec)

/-- 'hustingslaw20.WatchMade', WHERE WHAT IT READS IS OF BULK AT MOST 1048576: true; the input reads as it did. -/
def watchMadeUptoRow : OpenClaim := { program := "ytcpcdhlfdabbnaa", sum := "1d73f7f9f8e6d4fbda3b4f55da40abc45569b40917f2ac7b073ac23f8bf788db", func := "hustings/hustingslaw20.WatchMade", spec := "watchMade", unfollowed := true, recurses := true, apart := false, narrowed := true }
def WatchMadeUptoSaid : Prop := watchMadeUptoRow.holds Try.pinned (OpenSpec.upto watchMadeSpec)

/-- 'hustingslaw20.WatchBoth', WHERE WHAT IT READS IS OF BULK AT MOST 1048576: true; the input reads as it did. -/
def watchBothUptoRow : OpenClaim := { program := "ytcpcdhlfdabbnaa", sum := "1d73f7f9f8e6d4fbda3b4f55da40abc45569b40917f2ac7b073ac23f8bf788db", func := "hustings/hustingslaw20.WatchBoth", spec := "watchBoth", unfollowed := true, recurses := true, apart := false, narrowed := true }
def WatchBothUptoSaid : Prop := watchBothUptoRow.holds Try.pinned (OpenSpec.upto watchBothSpec)

/-- 'hustingslaw12.EntriesHints', WHERE WHAT IT READS IS OF BULK AT MOST 1048576: true; the input reads as it did. -/
def entriesHintsUptoRow : OpenClaim := { program := "ytcpcdhlfdabbnaa", sum := "1d73f7f9f8e6d4fbda3b4f55da40abc45569b40917f2ac7b073ac23f8bf788db", func := "hustings/hustingslaw12.EntriesHints", spec := "entriesHints", unfollowed := true, recurses := true, apart := false, narrowed := true }
def EntriesHintsUptoSaid : Prop := entriesHintsUptoRow.holds Try.pinned (OpenSpec.upto entriesHintsSpec)

/-- 'hustingslaw20.WatchSteps', WHERE WHAT IT READS IS OF BULK AT MOST 1048576: true; the input reads as it did. -/
def watchStepsUptoRow : OpenClaim := { program := "ytcpcdhlfdabbnaa", sum := "1d73f7f9f8e6d4fbda3b4f55da40abc45569b40917f2ac7b073ac23f8bf788db", func := "hustings/hustingslaw20.WatchSteps", spec := "watchSteps", unfollowed := true, recurses := true, apart := false, narrowed := true }
def WatchStepsUptoSaid : Prop := watchStepsUptoRow.holds Try.pinned (OpenSpec.upto watchStepsSpec)

/-- 'hustingslaw12.EntriesLooks', WHERE WHAT IT READS IS OF BULK AT MOST 1048576: true; the input reads as it did. -/
def entriesLooksUptoRow : OpenClaim := { program := "ytcpcdhlfdabbnaa", sum := "1d73f7f9f8e6d4fbda3b4f55da40abc45569b40917f2ac7b073ac23f8bf788db", func := "hustings/hustingslaw12.EntriesLooks", spec := "entriesLooks", unfollowed := true, recurses := true, apart := false, narrowed := true }
def EntriesLooksUptoSaid : Prop := entriesLooksUptoRow.holds Try.pinned (OpenSpec.upto entriesLooksSpec)

end Rows
end Go.Proofs.Ytcpcdhlfdabbnaa
