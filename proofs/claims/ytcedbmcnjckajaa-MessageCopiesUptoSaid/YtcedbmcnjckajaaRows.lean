/-
  No cell of these rows narrows 'for every input' (looked for: loops, veiled, ifaces, maps, wideKeys, modest, calm, conditions, laid).
  DERIVED. THE GIVEN ROWS OF THIS SEAT. 6 by the template 'for every input the law returns true; each argument reads behind the call as it read before'; 0 by the template 'total and deterministic' (their statements: YtcedbmcnjckajaaTotals.lean).
  GIVEN WITH THE SEED: the statements are not yours to turn. If you find one false, say at which input.
  Laid BY PROGRAM, IN A SANDBOX (cutbox-rows.mjs): the forced cells as the released guide's own fill.sh prints them over the translation f663ebe5975e1b04… (all of the seat's roots in one cut). By AI agents, Wed Nov 11 2026. No macro, syntax, notation, axiom, sorry.
-/
import Derived.Test.YtcedbmcnjckajaaChecked
import GoSem.Claim
import GoSem.ClaimJoined
import GoSem.ClaimMapViews
import Derived.JoinedTies
import Derived.KernelRfl
namespace Go.Proofs.Ytcedbmcnjckajaa
/- THE CELL 'sum', in the pinned program and in every row, IS THE sha256 OF THE DUMP (.gsa) THAT YtcedbmcnjckajaaProg.lean LOADS. Nothing in Lean hashes anything: it is a label: what it is worth is what the hold of that sum in a sandbox is worth. -/
noncomputable def Try.pinned : Pinned := { name := "ytcedbmcnjckajaa", sum := "f663ebe5975e1b043df6de9d1281d3f1ac70ff05b0897db364eba9b87b6e2d7e", checked := Try.checked }
namespace Rows
def none {H : Type} : Left H := { results := [], args := [] }

/-- 'hustingslaw04.MessagePuts': WHATEVER THE INPUT: true; the input reads as it did. -/
def messagePutsSpec : ChangeSpec := { name := "messagePuts", fn := fun _ => fun
  | [d] => { results := [.lit (.bool true)], args := [d] }
  | _ => none }
def messagePutsRow : OpenClaim := { program := "ytcedbmcnjckajaa", sum := "f663ebe5975e1b043df6de9d1281d3f1ac70ff05b0897db364eba9b87b6e2d7e", func := "hustings/hustingslaw04.MessagePuts", spec := "messagePuts", unfollowed := true, recurses := true, apart := false }
def MessagePutsSaid : Prop := messagePutsRow.holds Try.pinned (OpenSpec.ofChange messagePutsSpec)

/-- ITS FALSE NEIGHBOUR: 'it returns false'. Refute it at one input. -/
def messagePutsWrong : ChangeSpec := { name := "messagePuts", fn := fun _ => fun
  | [d] => { results := [.lit (.bool false)], args := [d] }
  | _ => none }
def MessagePutsWrongFalsely : Prop := messagePutsRow.holds Try.pinned (OpenSpec.ofChange messagePutsWrong)

/-- 'hustingslaw04.MessageApart': WHATEVER THE INPUT: true; the input reads as it did. -/
def messageApartSpec : ChangeSpec := { name := "messageApart", fn := fun _ => fun
  | [d1, d2] => { results := [.lit (.bool true)], args := [d1, d2] }
  | _ => none }
def messageApartRow : OpenClaim := { program := "ytcedbmcnjckajaa", sum := "f663ebe5975e1b043df6de9d1281d3f1ac70ff05b0897db364eba9b87b6e2d7e", func := "hustings/hustingslaw04.MessageApart", spec := "messageApart", unfollowed := true, recurses := true, apart := false }
def MessageApartSaid : Prop := messageApartRow.holds Try.pinned (OpenSpec.ofChange messageApartSpec)

/-- ITS FALSE NEIGHBOUR: 'it returns false'. Refute it at one input. -/
def messageApartWrong : ChangeSpec := { name := "messageApart", fn := fun _ => fun
  | [d1, d2] => { results := [.lit (.bool false)], args := [d1, d2] }
  | _ => none }
def MessageApartWrongFalsely : Prop := messageApartRow.holds Try.pinned (OpenSpec.ofChange messageApartWrong)

/-- 'hustingslaw04.MessageCopies': WHATEVER THE INPUT: true; the input reads as it did. -/
def messageCopiesSpec : ChangeSpec := { name := "messageCopies", fn := fun _ => fun
  | [d] => { results := [.lit (.bool true)], args := [d] }
  | _ => none }
def messageCopiesRow : OpenClaim := { program := "ytcedbmcnjckajaa", sum := "f663ebe5975e1b043df6de9d1281d3f1ac70ff05b0897db364eba9b87b6e2d7e", func := "hustings/hustingslaw04.MessageCopies", spec := "messageCopies", unfollowed := true, recurses := true, apart := false }
def MessageCopiesSaid : Prop := messageCopiesRow.holds Try.pinned (OpenSpec.ofChange messageCopiesSpec)

/-- ITS FALSE NEIGHBOUR: 'it returns false'. Refute it at one input. -/
def messageCopiesWrong : ChangeSpec := { name := "messageCopies", fn := fun _ => fun
  | [d] => { results := [.lit (.bool false)], args := [d] }
  | _ => none }
def MessageCopiesWrongFalsely : Prop := messageCopiesRow.holds Try.pinned (OpenSpec.ofChange messageCopiesWrong)

/-- 'hustingslaw04.MessageGets': WHATEVER THE INPUT: true; the input reads as it did. -/
def messageGetsSpec : ChangeSpec := { name := "messageGets", fn := fun _ => fun
  | [d] => { results := [.lit (.bool true)], args := [d] }
  | _ => none }
def messageGetsRow : OpenClaim := { program := "ytcedbmcnjckajaa", sum := "f663ebe5975e1b043df6de9d1281d3f1ac70ff05b0897db364eba9b87b6e2d7e", func := "hustings/hustingslaw04.MessageGets", spec := "messageGets", unfollowed := true, recurses := true, apart := false }
def MessageGetsSaid : Prop := messageGetsRow.holds Try.pinned (OpenSpec.ofChange messageGetsSpec)

/-- ITS FALSE NEIGHBOUR: 'it returns false'. Refute it at one input. -/
def messageGetsWrong : ChangeSpec := { name := "messageGets", fn := fun _ => fun
  | [d] => { results := [.lit (.bool false)], args := [d] }
  | _ => none }
def MessageGetsWrongFalsely : Prop := messageGetsRow.holds Try.pinned (OpenSpec.ofChange messageGetsWrong)

/-- 'hustingslaw04.MessageBack': WHATEVER THE INPUT: true; the input reads as it did. -/
def messageBackSpec : ChangeSpec := { name := "messageBack", fn := fun _ => fun
  | [d1, d2] => { results := [.lit (.bool true)], args := [d1, d2] }
  | _ => none }
def messageBackRow : OpenClaim := { program := "ytcedbmcnjckajaa", sum := "f663ebe5975e1b043df6de9d1281d3f1ac70ff05b0897db364eba9b87b6e2d7e", func := "hustings/hustingslaw04.MessageBack", spec := "messageBack", unfollowed := true, recurses := true, apart := false }
def MessageBackSaid : Prop := messageBackRow.holds Try.pinned (OpenSpec.ofChange messageBackSpec)

/-- ITS FALSE NEIGHBOUR: 'it returns false'. Refute it at one input. -/
def messageBackWrong : ChangeSpec := { name := "messageBack", fn := fun _ => fun
  | [d1, d2] => { results := [.lit (.bool false)], args := [d1, d2] }
  | _ => none }
def MessageBackWrongFalsely : Prop := messageBackRow.holds Try.pinned (OpenSpec.ofChange messageBackWrong)

/-- 'hustingslaw04.MessageEnds': WHATEVER THE INPUT: true; the input reads as it did. -/
def messageEndsSpec : ChangeSpec := { name := "messageEnds", fn := fun _ => fun
  | [d1, d2] => { results := [.lit (.bool true)], args := [d1, d2] }
  | _ => none }
def messageEndsRow : OpenClaim := { program := "ytcedbmcnjckajaa", sum := "f663ebe5975e1b043df6de9d1281d3f1ac70ff05b0897db364eba9b87b6e2d7e", func := "hustings/hustingslaw04.MessageEnds", spec := "messageEnds", unfollowed := true, recurses := true, apart := false }
def MessageEndsSaid : Prop := messageEndsRow.holds Try.pinned (OpenSpec.ofChange messageEndsSpec)

/-- ITS FALSE NEIGHBOUR: 'it returns false'. Refute it at one input. -/
def messageEndsWrong : ChangeSpec := { name := "messageEnds", fn := fun _ => fun
  | [d1, d2] => { results := [.lit (.bool false)], args := [d1, d2] }
  | _ => none }
def MessageEndsWrongFalsely : Prop := messageEndsRow.holds Try.pinned (OpenSpec.ofChange messageEndsWrong)

/- THE SECOND FORM. 'bulk': how many values and letters a reading holds, each counted each time it is reached (what is shared counts as often as it is met; a slice's spare places count too). A statement '..UptoSaid' is the law's where the arguments, and the package variables that the reading takes, are together of bulk at most 1048576: NARROWER than '..Said'. Prove '..Said' where nothing that the law and all that it calls make is longer than what came in: it says more and counts as full. Else prove '..UptoSaid'. A law counts once. -/
mutual
def uptoBulk {H : Type} : DataW H → Nat
  | .lit (.string bytes) => bytes.length + 1
  | .lit _ => 1
  | .nil => 1
  | .ptr d => uptoBulk d + 1
  | .slice elems spare => uptoBulkAll elems + uptoBulkAll spare + 1
  | .agg parts => uptoBulkAll parts + 1
  | .iface _ d => uptoBulk d + 1
  | .map entries => uptoBulkEntries entries + 1
  | .held _ => 1
def uptoBulkAll {H : Type} : List (DataW H) → Nat
  | [] => 0
  | d :: r => uptoBulk d + uptoBulkAll r
def uptoBulkEntries {H : Type} : List (Lit × DataW H) → Nat
  | [] => 0
  | x :: r => uptoBulkEntry x + uptoBulkEntries r
def uptoBulkEntry {H : Type} : Lit × DataW H → Nat
  | (.string bytes, d) => bytes.length + uptoBulk d + 1
  | (_, d) => uptoBulk d + 1
 end
def uptoSmall : (H : Type) → List (DataW H) → Bool := fun _ ds => decide (uptoBulkAll ds ≤ 1048576)
def OpenSpec.upto (s : _root_.Go.ChangeSpec) : _root_.Go.OpenSpec := { _root_.Go.OpenSpec.ofChange s with cond := some uptoSmall }

/-- 'hustingslaw04.MessagePuts', WHERE WHAT IT READS IS OF BULK AT MOST 1048576: true; the input reads as it did. -/
def messagePutsUptoRow : OpenClaim := { program := "ytcedbmcnjckajaa", sum := "f663ebe5975e1b043df6de9d1281d3f1ac70ff05b0897db364eba9b87b6e2d7e", func := "hustings/hustingslaw04.MessagePuts", spec := "messagePuts", unfollowed := true, recurses := true, apart := false, narrowed := true }
def MessagePutsUptoSaid : Prop := messagePutsUptoRow.holds Try.pinned (OpenSpec.upto messagePutsSpec)

/-- 'hustingslaw04.MessageApart', WHERE WHAT IT READS IS OF BULK AT MOST 1048576: true; the input reads as it did. -/
def messageApartUptoRow : OpenClaim := { program := "ytcedbmcnjckajaa", sum := "f663ebe5975e1b043df6de9d1281d3f1ac70ff05b0897db364eba9b87b6e2d7e", func := "hustings/hustingslaw04.MessageApart", spec := "messageApart", unfollowed := true, recurses := true, apart := false, narrowed := true }
def MessageApartUptoSaid : Prop := messageApartUptoRow.holds Try.pinned (OpenSpec.upto messageApartSpec)

/-- 'hustingslaw04.MessageCopies', WHERE WHAT IT READS IS OF BULK AT MOST 1048576: true; the input reads as it did. -/
def messageCopiesUptoRow : OpenClaim := { program := "ytcedbmcnjckajaa", sum := "f663ebe5975e1b043df6de9d1281d3f1ac70ff05b0897db364eba9b87b6e2d7e", func := "hustings/hustingslaw04.MessageCopies", spec := "messageCopies", unfollowed := true, recurses := true, apart := false, narrowed := true }
def MessageCopiesUptoSaid : Prop := messageCopiesUptoRow.holds Try.pinned (OpenSpec.upto messageCopiesSpec)

/-- 'hustingslaw04.MessageGets', WHERE WHAT IT READS IS OF BULK AT MOST 1048576: true; the input reads as it did. -/
def messageGetsUptoRow : OpenClaim := { program := "ytcedbmcnjckajaa", sum := "f663ebe5975e1b043df6de9d1281d3f1ac70ff05b0897db364eba9b87b6e2d7e", func := "hustings/hustingslaw04.MessageGets", spec := "messageGets", unfollowed := true, recurses := true, apart := false, narrowed := true }
def MessageGetsUptoSaid : Prop := messageGetsUptoRow.holds Try.pinned (OpenSpec.upto messageGetsSpec)

/-- 'hustingslaw04.MessageBack', WHERE WHAT IT READS IS OF BULK AT MOST 1048576: true; the input reads as it did. -/
def messageBackUptoRow : OpenClaim := { program := "ytcedbmcnjckajaa", sum := "f663ebe5975e1b043df6de9d1281d3f1ac70ff05b0897db364eba9b87b6e2d7e", func := "hustings/hustingslaw04.MessageBack", spec := "messageBack", unfollowed := true, recurses := true, apart := false, narrowed := true }
def MessageBackUptoSaid : Prop := messageBackUptoRow.holds Try.pinned (OpenSpec.upto messageBackSpec)

/-- 'hustingslaw04.MessageEnds', WHERE WHAT IT READS IS OF BULK AT MOST 1048576: true; the input reads as it did. -/
def messageEndsUptoRow : OpenClaim := { program := "ytcedbmcnjckajaa", sum := "f663ebe5975e1b043df6de9d1281d3f1ac70ff05b0897db364eba9b87b6e2d7e", func := "hustings/hustingslaw04.MessageEnds", spec := "messageEnds", unfollowed := true, recurses := true, apart := false, narrowed := true }
def MessageEndsUptoSaid : Prop := messageEndsUptoRow.holds Try.pinned (OpenSpec.upto messageEndsSpec)

end Rows
end Go.Proofs.Ytcedbmcnjckajaa
