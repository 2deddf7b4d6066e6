/-
  A list of operations of a disk, opened.
-/
import Derived.Test.YtiofgdgmlnhekaaVdO
namespace Go.Proofs.Ytiofgdgmlnhekaa
open Go Go.RowKit Sl Go.Deep Go.ChangeShapes Go.WideShapes Go.ChangeAt

section
variable {H : Type} {enc : TypeId × Value → H} {W : World}
theorem open_vops {fuel : Nat} {cs : List Value} {x : DataW H × List MemPlace} (h : DataW.trod enc Try.prog W 0 (fun _ => true) true fuel 42 cs = some x) :
    ∃ xs : List VOp, SlV VOpV 6 (Reads W) cs xs ∧ xs.length ≤ Rows.uptoBulk x.1 ∧ ∀ y ∈ xs, y.wt ≤ Rows.uptoBulk x.1 := by
  obtain ⟨xs, h1, h2, h3⟩ := open_slV (f := VOpV) (wt := fun y => y.wt) (sz := 6) Try.underlying42 (by kernel_rfl) (by omega) (fun _ _ _ h => open_vop h) h
  refine ⟨xs, h1, by omega, fun y hy => ?_⟩
  have h4 : y.wt ≤ (xs.map fun y => y.wt).sum := by
    clear h1 h2 h3
    induction xs with
    | nil => cases hy
    | cons z xs ih =>
      simp only [List.map_cons, List.sum_cons]
      rcases List.mem_cons.1 hy with rfl | hy
      · omega
      · have := ih hy; omega
  omega
end
end Go.Proofs.Ytiofgdgmlnhekaa
