/-
  No cell of these rows narrows 'for every input' (looked for: loops, veiled, ifaces, maps, wideKeys, modest, calm, conditions, laid).
  DERIVED. THE GIVEN ROWS OF THIS SEAT. 8 by the template 'for every input the law returns true; each argument reads behind the call as it read before'; 0 by the template 'total and deterministic' (their statements: YtdlimjcidblneaaTotals.lean).
  GIVEN WITH THE SEED: the statements are not yours to turn. If you find one false, say at which input.
  Laid BY PROGRAM, IN A SANDBOX (cutbox-rows.mjs): the forced cells as the released guide's own fill.sh prints them over the translation 083a25d212eebf79… (all of the seat's roots in one cut). By AI agents, Wed Nov 11 2026. No macro, syntax, notation, axiom, sorry.
-/
import Derived.Test.YtdlimjcidblneaaChecked
import GoSem.Claim
import GoSem.ClaimJoined
import GoSem.ClaimMapViews
import Derived.JoinedTies
import Derived.KernelRfl
namespace Go.Proofs.Ytdlimjcidblneaa
/- THE CELL 'sum', in the pinned program and in every row, IS THE sha256 OF THE DUMP (.gsa) THAT YtdlimjcidblneaaProg.lean LOADS. Nothing in Lean hashes anything: it is a label: what it is worth is what the hold of that sum in a sandbox is worth. -/
noncomputable def Try.pinned : Pinned := { name := "ytdlimjcidblneaa", sum := "083a25d212eebf79695027dc68091ba293a4bd75a29bc0e5cb32142fe002db7f", checked := Try.checked }
namespace Rows
def none {H : Type} : Left H := { results := [], args := [] }

/-- 'hustingslaw08.MachineOnce': WHATEVER THE INPUT: true; the input reads as it did. -/
def machineOnceSpec : ChangeSpec := { name := "machineOnce", fn := fun _ => fun
  | [d] => { results := [.lit (.bool true)], args := [d] }
  | _ => none }
def machineOnceRow : OpenClaim := { program := "ytdlimjcidblneaa", sum := "083a25d212eebf79695027dc68091ba293a4bd75a29bc0e5cb32142fe002db7f", func := "hustings/hustingslaw08.MachineOnce", spec := "machineOnce", unfollowed := true, recurses := true, plainKeys := false, apart := false }
def MachineOnceSaid : Prop := machineOnceRow.holds Try.pinned (OpenSpec.ofChange machineOnceSpec)

/-- ITS FALSE NEIGHBOUR: 'it returns false'. Refute it at one input. -/
def machineOnceWrong : ChangeSpec := { name := "machineOnce", fn := fun _ => fun
  | [d] => { results := [.lit (.bool false)], args := [d] }
  | _ => none }
def MachineOnceWrongFalsely : Prop := machineOnceRow.holds Try.pinned (OpenSpec.ofChange machineOnceWrong)

/-- 'hustingslaw08.MachineCommands': WHATEVER THE INPUT: true; the input reads as it did. -/
def machineCommandsSpec : ChangeSpec := { name := "machineCommands", fn := fun _ => fun
  | [d1, d2, d3, d4] => { results := [.lit (.bool true)], args := [d1, d2, d3, d4] }
  | _ => none }
def machineCommandsRow : OpenClaim := { program := "ytdlimjcidblneaa", sum := "083a25d212eebf79695027dc68091ba293a4bd75a29bc0e5cb32142fe002db7f", func := "hustings/hustingslaw08.MachineCommands", spec := "machineCommands", unfollowed := true, recurses := true, plainKeys := false, apart := false }
def MachineCommandsSaid : Prop := machineCommandsRow.holds Try.pinned (OpenSpec.ofChange machineCommandsSpec)

/-- ITS FALSE NEIGHBOUR: 'it returns false'. Refute it at one input. -/
def machineCommandsWrong : ChangeSpec := { name := "machineCommands", fn := fun _ => fun
  | [d1, d2, d3, d4] => { results := [.lit (.bool false)], args := [d1, d2, d3, d4] }
  | _ => none }
def MachineCommandsWrongFalsely : Prop := machineCommandsRow.holds Try.pinned (OpenSpec.ofChange machineCommandsWrong)

/-- 'hustingslaw08.MachineReads': WHATEVER THE INPUT: true; the input reads as it did. -/
def machineReadsSpec : ChangeSpec := { name := "machineReads", fn := fun _ => fun
  | [d1, d2, d3, d4, d5] => { results := [.lit (.bool true)], args := [d1, d2, d3, d4, d5] }
  | _ => none }
def machineReadsRow : OpenClaim := { program := "ytdlimjcidblneaa", sum := "083a25d212eebf79695027dc68091ba293a4bd75a29bc0e5cb32142fe002db7f", func := "hustings/hustingslaw08.MachineReads", spec := "machineReads", unfollowed := true, recurses := true, plainKeys := false, apart := false }
def MachineReadsSaid : Prop := machineReadsRow.holds Try.pinned (OpenSpec.ofChange machineReadsSpec)

/-- ITS FALSE NEIGHBOUR: 'it returns false'. Refute it at one input. -/
def machineReadsWrong : ChangeSpec := { name := "machineReads", fn := fun _ => fun
  | [d1, d2, d3, d4, d5] => { results := [.lit (.bool false)], args := [d1, d2, d3, d4, d5] }
  | _ => none }
def MachineReadsWrongFalsely : Prop := machineReadsRow.holds Try.pinned (OpenSpec.ofChange machineReadsWrong)

/-- 'hustingslaw08.MachineExpires': WHATEVER THE INPUT: true; the input reads as it did. -/
def machineExpiresSpec : ChangeSpec := { name := "machineExpires", fn := fun _ => fun
  | [d1, d2] => { results := [.lit (.bool true)], args := [d1, d2] }
  | _ => none }
def machineExpiresRow : OpenClaim := { program := "ytdlimjcidblneaa", sum := "083a25d212eebf79695027dc68091ba293a4bd75a29bc0e5cb32142fe002db7f", func := "hustings/hustingslaw08.MachineExpires", spec := "machineExpires", unfollowed := true, recurses := true, plainKeys := false, apart := false }
def MachineExpiresSaid : Prop := machineExpiresRow.holds Try.pinned (OpenSpec.ofChange machineExpiresSpec)

/-- ITS FALSE NEIGHBOUR: 'it returns false'. Refute it at one input. -/
def machineExpiresWrong : ChangeSpec := { name := "machineExpires", fn := fun _ => fun
  | [d1, d2] => { results := [.lit (.bool false)], args := [d1, d2] }
  | _ => none }
def MachineExpiresWrongFalsely : Prop := machineExpiresRow.holds Try.pinned (OpenSpec.ofChange machineExpiresWrong)

/-- 'hustingslaw08.MachineAlike': WHATEVER THE INPUT: true; the input reads as it did. -/
def machineAlikeSpec : ChangeSpec := { name := "machineAlike", fn := fun _ => fun
  | [d1, d2] => { results := [.lit (.bool true)], args := [d1, d2] }
  | _ => none }
def machineAlikeRow : OpenClaim := { program := "ytdlimjcidblneaa", sum := "083a25d212eebf79695027dc68091ba293a4bd75a29bc0e5cb32142fe002db7f", func := "hustings/hustingslaw08.MachineAlike", spec := "machineAlike", unfollowed := true, recurses := true, plainKeys := false, apart := false }
def MachineAlikeSaid : Prop := machineAlikeRow.holds Try.pinned (OpenSpec.ofChange machineAlikeSpec)

/-- ITS FALSE NEIGHBOUR: 'it returns false'. Refute it at one input. -/
def machineAlikeWrong : ChangeSpec := { name := "machineAlike", fn := fun _ => fun
  | [d1, d2] => { results := [.lit (.bool false)], args := [d1, d2] }
  | _ => none }
def MachineAlikeWrongFalsely : Prop := machineAlikeRow.holds Try.pinned (OpenSpec.ofChange machineAlikeWrong)

/-- 'hustingslaw08.MachinePlays': WHATEVER THE INPUT: true; the input reads as it did. -/
def machinePlaysSpec : ChangeSpec := { name := "machinePlays", fn := fun _ => fun
  | [d1, d2, d3] => { results := [.lit (.bool true)], args := [d1, d2, d3] }
  | _ => none }
def machinePlaysRow : OpenClaim := { program := "ytdlimjcidblneaa", sum := "083a25d212eebf79695027dc68091ba293a4bd75a29bc0e5cb32142fe002db7f", func := "hustings/hustingslaw08.MachinePlays", spec := "machinePlays", unfollowed := true, recurses := true, plainKeys := false, apart := false }
def MachinePlaysSaid : Prop := machinePlaysRow.holds Try.pinned (OpenSpec.ofChange machinePlaysSpec)

/-- ITS FALSE NEIGHBOUR: 'it returns false'. Refute it at one input. -/
def machinePlaysWrong : ChangeSpec := { name := "machinePlays", fn := fun _ => fun
  | [d1, d2, d3] => { results := [.lit (.bool false)], args := [d1, d2, d3] }
  | _ => none }
def MachinePlaysWrongFalsely : Prop := machinePlaysRow.holds Try.pinned (OpenSpec.ofChange machinePlaysWrong)

/-- 'hustingslaw08.MachineNil': WHATEVER THE INPUT: true; the input reads as it did. -/
def machineNilSpec : ChangeSpec := { name := "machineNil", fn := fun _ => fun
  | [d1, d2] => { results := [.lit (.bool true)], args := [d1, d2] }
  | _ => none }
def machineNilRow : OpenClaim := { program := "ytdlimjcidblneaa", sum := "083a25d212eebf79695027dc68091ba293a4bd75a29bc0e5cb32142fe002db7f", func := "hustings/hustingslaw08.MachineNil", spec := "machineNil", unfollowed := true, recurses := true, plainKeys := false, apart := false }
def MachineNilSaid : Prop := machineNilRow.holds Try.pinned (OpenSpec.ofChange machineNilSpec)

/-- ITS FALSE NEIGHBOUR: 'it returns false'. Refute it at one input. -/
def machineNilWrong : ChangeSpec := { name := "machineNil", fn := fun _ => fun
  | [d1, d2] => { results := [.lit (.bool false)], args := [d1, d2] }
  | _ => none }
def MachineNilWrongFalsely : Prop := machineNilRow.holds Try.pinned (OpenSpec.ofChange machineNilWrong)

/-- 'hustingslaw08.MachineRestores': WHATEVER THE INPUT: true; the input reads as it did. -/
def machineRestoresSpec : ChangeSpec := { name := "machineRestores", fn := fun _ => fun
  | [d1, d2, d3] => { results := [.lit (.bool true)], args := [d1, d2, d3] }
  | _ => none }
def machineRestoresRow : OpenClaim := { program := "ytdlimjcidblneaa", sum := "083a25d212eebf79695027dc68091ba293a4bd75a29bc0e5cb32142fe002db7f", func := "hustings/hustingslaw08.MachineRestores", spec := "machineRestores", unfollowed := true, recurses := true, plainKeys := false, apart := false }
def MachineRestoresSaid : Prop := machineRestoresRow.holds Try.pinned (OpenSpec.ofChange machineRestoresSpec)

/-- ITS FALSE NEIGHBOUR: 'it returns false'. Refute it at one input. -/
def machineRestoresWrong : ChangeSpec := { name := "machineRestores", fn := fun _ => fun
  | [d1, d2, d3] => { results := [.lit (.bool false)], args := [d1, d2, d3] }
  | _ => none }
def MachineRestoresWrongFalsely : Prop := machineRestoresRow.holds Try.pinned (OpenSpec.ofChange machineRestoresWrong)

/- THE SECOND FORM. 'bulk': how many values and letters a reading holds, each counted each time it is reached (what is shared counts as often as it is met; a slice's spare places count too). A statement '..UptoSaid' is the law's where the arguments, and the package variables that the reading takes, are together of bulk at most 1048576: NARROWER than '..Said'. Prove '..Said' where nothing that the law and all that it calls make is longer than what came in: it says more and counts as full. Else prove '..UptoSaid'. A law counts once. -/
mutual
def uptoBulk {H : Type} : DataW H → Nat
  | .lit (.string bytes) => bytes.length + 1
  | .lit _ => 1
  | .nil => 1
  | .ptr d => uptoBulk d + 1
  | .slice elems spare => uptoBulkAll elems + uptoBulkAll spare + 1
  | .agg parts => uptoBulkAll parts + 1
  | .iface _ d => uptoBulk d + 1
  | .map entries => uptoBulkEntries entries + 1
  | .held _ => 1
def uptoBulkAll {H : Type} : List (DataW H) → Nat
  | [] => 0
  | d :: r => uptoBulk d + uptoBulkAll r
def uptoBulkEntries {H : Type} : List (Lit × DataW H) → Nat
  | [] => 0
  | x :: r => uptoBulkEntry x + uptoBulkEntries r
def uptoBulkEntry {H : Type} : Lit × DataW H → Nat
  | (.string bytes, d) => bytes.length + uptoBulk d + 1
  | (_, d) => uptoBulk d + 1
 end
def uptoSmall : (H : Type) → List (DataW H) → Bool := fun _ ds => decide (uptoBulkAll ds ≤ 1048576)
def OpenSpec.upto (s : _root_.Go.ChangeSpec) : _root_.Go.OpenSpec := { _root_.Go.OpenSpec.ofChange s with cond := some uptoSmall }

/-- 'hustingslaw08.MachineOnce', WHERE WHAT IT READS IS OF BULK AT MOST 1048576: true; the input reads as it did. -/
def machineOnceUptoRow : OpenClaim := { program := "ytdlimjcidblneaa", sum := "083a25d212eebf79695027dc68091ba293a4bd75a29bc0e5cb32142fe002db7f", func := "hustings/hustingslaw08.MachineOnce", spec := "machineOnce", unfollowed := true, recurses := true, plainKeys := false, apart := false, narrowed := true }
def MachineOnceUptoSaid : Prop := machineOnceUptoRow.holds Try.pinned (OpenSpec.upto machineOnceSpec)

/-- 'hustingslaw08.MachineCommands', WHERE WHAT IT READS IS OF BULK AT MOST 1048576: true; the input reads as it did. -/
def machineCommandsUptoRow : OpenClaim := { program := "ytdlimjcidblneaa", sum := "083a25d212eebf79695027dc68091ba293a4bd75a29bc0e5cb32142fe002db7f", func := "hustings/hustingslaw08.MachineCommands", spec := "machineCommands", unfollowed := true, recurses := true, plainKeys := false, apart := false, narrowed := true }
def MachineCommandsUptoSaid : Prop := machineCommandsUptoRow.holds Try.pinned (OpenSpec.upto machineCommandsSpec)

/-- 'hustingslaw08.MachineReads', WHERE WHAT IT READS IS OF BULK AT MOST 1048576: true; the input reads as it did. -/
def machineReadsUptoRow : OpenClaim := { program := "ytdlimjcidblneaa", sum := "083a25d212eebf79695027dc68091ba293a4bd75a29bc0e5cb32142fe002db7f", func := "hustings/hustingslaw08.MachineReads", spec := "machineReads", unfollowed := true, recurses := true, plainKeys := false, apart := false, narrowed := true }
def MachineReadsUptoSaid : Prop := machineReadsUptoRow.holds Try.pinned (OpenSpec.upto machineReadsSpec)

/-- 'hustingslaw08.MachineExpires', WHERE WHAT IT READS IS OF BULK AT MOST 1048576: true; the input reads as it did. -/
def machineExpiresUptoRow : OpenClaim := { program := "ytdlimjcidblneaa", sum := "083a25d212eebf79695027dc68091ba293a4bd75a29bc0e5cb32142fe002db7f", func := "hustings/hustingslaw08.MachineExpires", spec := "machineExpires", unfollowed := true, recurses := true, plainKeys := false, apart := false, narrowed := true }
def MachineExpiresUptoSaid : Prop := machineExpiresUptoRow.holds Try.pinned (OpenSpec.upto machineExpiresSpec)

/-- 'hustingslaw08.MachineAlike', WHERE WHAT IT READS IS OF BULK AT MOST 1048576: true; the input reads as it did. -/
def machineAlikeUptoRow : OpenClaim := { program := "ytdlimjcidblneaa", sum := "083a25d212eebf79695027dc68091ba293a4bd75a29bc0e5cb32142fe002db7f", func := "hustings/hustingslaw08.MachineAlike", spec := "machineAlike", unfollowed := true, recurses := true, plainKeys := false, apart := false, narrowed := true }
def MachineAlikeUptoSaid : Prop := machineAlikeUptoRow.holds Try.pinned (OpenSpec.upto machineAlikeSpec)

/-- 'hustingslaw08.MachinePlays', WHERE WHAT IT READS IS OF BULK AT MOST 1048576: true; the input reads as it did. -/
def machinePlaysUptoRow : OpenClaim := { program := "ytdlimjcidblneaa", sum := "083a25d212eebf79695027dc68091ba293a4bd75a29bc0e5cb32142fe002db7f", func := "hustings/hustingslaw08.MachinePlays", spec := "machinePlays", unfollowed := true, recurses := true, plainKeys := false, apart := false, narrowed := true }
def MachinePlaysUptoSaid : Prop := machinePlaysUptoRow.holds Try.pinned (OpenSpec.upto machinePlaysSpec)

/-- 'hustingslaw08.MachineNil', WHERE WHAT IT READS IS OF BULK AT MOST 1048576: true; the input reads as it did. -/
def machineNilUptoRow : OpenClaim := { program := "ytdlimjcidblneaa", sum := "083a25d212eebf79695027dc68091ba293a4bd75a29bc0e5cb32142fe002db7f", func := "hustings/hustingslaw08.MachineNil", spec := "machineNil", unfollowed := true, recurses := true, plainKeys := false, apart := false, narrowed := true }
def MachineNilUptoSaid : Prop := machineNilUptoRow.holds Try.pinned (OpenSpec.upto machineNilSpec)

/-- 'hustingslaw08.MachineRestores', WHERE WHAT IT READS IS OF BULK AT MOST 1048576: true; the input reads as it did. -/
def machineRestoresUptoRow : OpenClaim := { program := "ytdlimjcidblneaa", sum := "083a25d212eebf79695027dc68091ba293a4bd75a29bc0e5cb32142fe002db7f", func := "hustings/hustingslaw08.MachineRestores", spec := "machineRestores", unfollowed := true, recurses := true, plainKeys := false, apart := false, narrowed := true }
def MachineRestoresUptoSaid : Prop := machineRestoresUptoRow.holds Try.pinned (OpenSpec.upto machineRestoresSpec)

end Rows
end Go.Proofs.Ytdlimjcidblneaa
