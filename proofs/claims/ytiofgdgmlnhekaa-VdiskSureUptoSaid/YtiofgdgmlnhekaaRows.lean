/-
  No cell of these rows narrows 'for every input' (looked for: loops, veiled, ifaces, maps, wideKeys, modest, calm, conditions, laid).
  DERIVED. THE GIVEN ROWS OF THIS SEAT. 4 by the template 'for every input the law returns true; each argument reads behind the call as it read before'; 0 by the template 'total and deterministic' (their statements: YtiofgdgmlnhekaaTotals.lean).
  GIVEN WITH THE SEED: the statements are not yours to turn. If you find one false, say at which input.
  Laid BY PROGRAM, IN A SANDBOX (cutbox-rows.mjs): the forced cells as the released guide's own fill.sh prints them over the translation 1494733b952e6381… (all of the seat's roots in one cut). By AI agents, Wed Nov 11 2026. No macro, syntax, notation, axiom, sorry.
-/
import Derived.Test.YtiofgdgmlnhekaaChecked
import GoSem.Claim
import GoSem.ClaimJoined
import GoSem.ClaimMapViews
import Derived.JoinedTies
import Derived.KernelRfl
namespace Go.Proofs.Ytiofgdgmlnhekaa
/- THE CELL 'sum', in the pinned program and in every row, IS THE sha256 OF THE DUMP (.gsa) THAT YtiofgdgmlnhekaaProg.lean LOADS. Nothing in Lean hashes anything: it is a label: what it is worth is what the hold of that sum in a sandbox is worth. -/
noncomputable def Try.pinned : Pinned := { name := "ytiofgdgmlnhekaa", sum := "1494733b952e63815d98fbc1e2b413d2de5e3115b04961cf792a88f0fdfba753", checked := Try.checked }
namespace Rows
def none {H : Type} : Left H := { results := [], args := [] }

/-- 'hustingslaw01.VdiskTail': WHATEVER THE INPUT: true; the input reads as it did. -/
def vdiskTailSpec : ChangeSpec := { name := "vdiskTail", fn := fun _ => fun
  | [d1, d2, d3, d4, d5] => { results := [.lit (.bool true)], args := [d1, d2, d3, d4, d5] }
  | _ => none }
def vdiskTailRow : OpenClaim := { program := "ytiofgdgmlnhekaa", sum := "1494733b952e63815d98fbc1e2b413d2de5e3115b04961cf792a88f0fdfba753", func := "hustings/hustingslaw01.VdiskTail", spec := "vdiskTail", inPlace := ["maps.clone"], unfollowed := true, recurses := true, apart := false }
def VdiskTailSaid : Prop := vdiskTailRow.holds Try.pinned (OpenSpec.ofChange vdiskTailSpec)

/-- ITS FALSE NEIGHBOUR: 'it returns false'. Refute it at one input. -/
def vdiskTailWrong : ChangeSpec := { name := "vdiskTail", fn := fun _ => fun
  | [d1, d2, d3, d4, d5] => { results := [.lit (.bool false)], args := [d1, d2, d3, d4, d5] }
  | _ => none }
def VdiskTailWrongFalsely : Prop := vdiskTailRow.holds Try.pinned (OpenSpec.ofChange vdiskTailWrong)

/-- 'hustingslaw01.VdiskSwap': WHATEVER THE INPUT: true; the input reads as it did. -/
def vdiskSwapSpec : ChangeSpec := { name := "vdiskSwap", fn := fun _ => fun
  | [d1, d2, d3, d4] => { results := [.lit (.bool true)], args := [d1, d2, d3, d4] }
  | _ => none }
def vdiskSwapRow : OpenClaim := { program := "ytiofgdgmlnhekaa", sum := "1494733b952e63815d98fbc1e2b413d2de5e3115b04961cf792a88f0fdfba753", func := "hustings/hustingslaw01.VdiskSwap", spec := "vdiskSwap", inPlace := ["maps.clone"], unfollowed := true, recurses := true, apart := false }
def VdiskSwapSaid : Prop := vdiskSwapRow.holds Try.pinned (OpenSpec.ofChange vdiskSwapSpec)

/-- ITS FALSE NEIGHBOUR: 'it returns false'. Refute it at one input. -/
def vdiskSwapWrong : ChangeSpec := { name := "vdiskSwap", fn := fun _ => fun
  | [d1, d2, d3, d4] => { results := [.lit (.bool false)], args := [d1, d2, d3, d4] }
  | _ => none }
def VdiskSwapWrongFalsely : Prop := vdiskSwapRow.holds Try.pinned (OpenSpec.ofChange vdiskSwapWrong)

/-- 'hustingslaw01.VdiskSure': WHATEVER THE INPUT: true; the input reads as it did. -/
def vdiskSureSpec : ChangeSpec := { name := "vdiskSure", fn := fun _ => fun
  | [d1, d2, d3] => { results := [.lit (.bool true)], args := [d1, d2, d3] }
  | _ => none }
def vdiskSureRow : OpenClaim := { program := "ytiofgdgmlnhekaa", sum := "1494733b952e63815d98fbc1e2b413d2de5e3115b04961cf792a88f0fdfba753", func := "hustings/hustingslaw01.VdiskSure", spec := "vdiskSure", inPlace := ["maps.clone"], unfollowed := true, recurses := true, apart := false }
def VdiskSureSaid : Prop := vdiskSureRow.holds Try.pinned (OpenSpec.ofChange vdiskSureSpec)

/-- ITS FALSE NEIGHBOUR: 'it returns false'. Refute it at one input. -/
def vdiskSureWrong : ChangeSpec := { name := "vdiskSure", fn := fun _ => fun
  | [d1, d2, d3] => { results := [.lit (.bool false)], args := [d1, d2, d3] }
  | _ => none }
def VdiskSureWrongFalsely : Prop := vdiskSureRow.holds Try.pinned (OpenSpec.ofChange vdiskSureWrong)

/-- 'hustingslaw01.VdiskNil': WHATEVER THE INPUT: true; the input reads as it did. -/
def vdiskNilSpec : ChangeSpec := { name := "vdiskNil", fn := fun _ => fun
  | [d] => { results := [.lit (.bool true)], args := [d] }
  | _ => none }
def vdiskNilRow : OpenClaim := { program := "ytiofgdgmlnhekaa", sum := "1494733b952e63815d98fbc1e2b413d2de5e3115b04961cf792a88f0fdfba753", func := "hustings/hustingslaw01.VdiskNil", spec := "vdiskNil", inPlace := ["maps.clone"], unfollowed := true, recurses := true, apart := false }
def VdiskNilSaid : Prop := vdiskNilRow.holds Try.pinned (OpenSpec.ofChange vdiskNilSpec)

/-- ITS FALSE NEIGHBOUR: 'it returns false'. Refute it at one input. -/
def vdiskNilWrong : ChangeSpec := { name := "vdiskNil", fn := fun _ => fun
  | [d] => { results := [.lit (.bool false)], args := [d] }
  | _ => none }
def VdiskNilWrongFalsely : Prop := vdiskNilRow.holds Try.pinned (OpenSpec.ofChange vdiskNilWrong)

/- THE SECOND FORM. 'bulk': how many values and letters a reading holds, each counted each time it is reached (what is shared counts as often as it is met; a slice's spare places count too). A statement '..UptoSaid' is the law's where the arguments, and the package variables that the reading takes, are together of bulk at most 1048576: NARROWER than '..Said'. Prove '..Said' where nothing that the law and all that it calls make is longer than what came in: it says more and counts as full. Else prove '..UptoSaid'. A law counts once. -/
mutual
def uptoBulk {H : Type} : DataW H → Nat
  | .lit (.string bytes) => bytes.length + 1
  | .lit _ => 1
  | .nil => 1
  | .ptr d => uptoBulk d + 1
  | .slice elems spare => uptoBulkAll elems + uptoBulkAll spare + 1
  | .agg parts => uptoBulkAll parts + 1
  | .iface _ d => uptoBulk d + 1
  | .map entries => uptoBulkEntries entries + 1
  | .held _ => 1
def uptoBulkAll {H : Type} : List (DataW H) → Nat
  | [] => 0
  | d :: r => uptoBulk d + uptoBulkAll r
def uptoBulkEntries {H : Type} : List (Lit × DataW H) → Nat
  | [] => 0
  | x :: r => uptoBulkEntry x + uptoBulkEntries r
def uptoBulkEntry {H : Type} : Lit × DataW H → Nat
  | (.string bytes, d) => bytes.length + uptoBulk d + 1
  | (_, d) => uptoBulk d + 1
 end
def uptoSmall : (H : Type) → List (DataW H) → Bool := fun _ ds => decide (uptoBulkAll ds ≤ 1048576)
def OpenSpec.upto (s : _root_.Go.ChangeSpec) : _root_.Go.OpenSpec := { _root_.Go.OpenSpec.ofChange s with cond := some uptoSmall }

/-- 'hustingslaw01.VdiskTail', WHERE WHAT IT READS IS OF BULK AT MOST 1048576: true; the input reads as it did. -/
def vdiskTailUptoRow : OpenClaim := { program := "ytiofgdgmlnhekaa", sum := "1494733b952e63815d98fbc1e2b413d2de5e3115b04961cf792a88f0fdfba753", func := "hustings/hustingslaw01.VdiskTail", spec := "vdiskTail", inPlace := ["maps.clone"], unfollowed := true, recurses := true, apart := false, narrowed := true }
def VdiskTailUptoSaid : Prop := vdiskTailUptoRow.holds Try.pinned (OpenSpec.upto vdiskTailSpec)

/-- 'hustingslaw01.VdiskSwap', WHERE WHAT IT READS IS OF BULK AT MOST 1048576: true; the input reads as it did. -/
def vdiskSwapUptoRow : OpenClaim := { program := "ytiofgdgmlnhekaa", sum := "1494733b952e63815d98fbc1e2b413d2de5e3115b04961cf792a88f0fdfba753", func := "hustings/hustingslaw01.VdiskSwap", spec := "vdiskSwap", inPlace := ["maps.clone"], unfollowed := true, recurses := true, apart := false, narrowed := true }
def VdiskSwapUptoSaid : Prop := vdiskSwapUptoRow.holds Try.pinned (OpenSpec.upto vdiskSwapSpec)

/-- 'hustingslaw01.VdiskSure', WHERE WHAT IT READS IS OF BULK AT MOST 1048576: true; the input reads as it did. -/
def vdiskSureUptoRow : OpenClaim := { program := "ytiofgdgmlnhekaa", sum := "1494733b952e63815d98fbc1e2b413d2de5e3115b04961cf792a88f0fdfba753", func := "hustings/hustingslaw01.VdiskSure", spec := "vdiskSure", inPlace := ["maps.clone"], unfollowed := true, recurses := true, apart := false, narrowed := true }
def VdiskSureUptoSaid : Prop := vdiskSureUptoRow.holds Try.pinned (OpenSpec.upto vdiskSureSpec)

/-- 'hustingslaw01.VdiskNil', WHERE WHAT IT READS IS OF BULK AT MOST 1048576: true; the input reads as it did. -/
def vdiskNilUptoRow : OpenClaim := { program := "ytiofgdgmlnhekaa", sum := "1494733b952e63815d98fbc1e2b413d2de5e3115b04961cf792a88f0fdfba753", func := "hustings/hustingslaw01.VdiskNil", spec := "vdiskNil", inPlace := ["maps.clone"], unfollowed := true, recurses := true, apart := false, narrowed := true }
def VdiskNilUptoSaid : Prop := vdiskNilUptoRow.holds Try.pinned (OpenSpec.upto vdiskNilSpec)

end Rows
end Go.Proofs.Ytiofgdgmlnhekaa
