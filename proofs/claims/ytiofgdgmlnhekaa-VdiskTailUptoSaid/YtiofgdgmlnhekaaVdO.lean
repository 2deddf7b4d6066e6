/-
  Arguments of the rows: what room slices have.
-/
import Derived.Test.YtiofgdgmlnhekaaEntL
namespace Go.Proofs.Ytiofgdgmlnhekaa
open Go Go.RowKit Sl Go.Deep Go.ChangeShapes Go.WideShapes Go.ChangeAt

section
variable {H : Type} {enc : TypeId × Value → H} {W : World}
theorem open_capD {T E : TypeId} {fuel : Nat} {A : Option Addr} {n c : Nat} {x : DataW H × List MemPlace} (hT : Try.prog.underlying T = some (.slice E)) (h : DataW.trod enc Try.prog W 0 (fun _ => true) true fuel T [.slice A n c] = some x) : n ≤ c := by
  rcases DataW.trod_slice hT h with ⟨e, _⟩ | ⟨a, len, cap, _, _, _, _, e, _, _, hl, _⟩
  · simp only [List.cons.injEq, Value.slice.injEq, and_true] at e; omega
  · simp only [List.cons.injEq, Value.slice.injEq, and_true] at e; omega
end
end Go.Proofs.Ytiofgdgmlnhekaa
