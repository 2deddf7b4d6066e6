/-
  Lists of bytes with room, opened.
-/
import Derived.Test.YtdlimjcidblneaaMr3
import Derived.Test.YtdlimjcidblneaaEntL
namespace Go.Proofs.Ytdlimjcidblneaa
open Go Go.RowKit Sl Go.Deep Go.ChangeShapes Go.WideShapes Go.ChangeAt

section
variable {H : Type} {enc : TypeId × Value → H} {W : World}
theorem open_bytesC {fuel : Nat} {cs : List Value} {x : DataW H × List MemPlace} (h : DataW.trod enc Try.prog W 0 (fun _ => true) true fuel 33 cs = some x) : ∃ l : List UInt8, BytesCV (Reads W) cs l ∧ l.length ≤ Rows.uptoBulk x.1 := by
  obtain ⟨A, n, c, l, rfl, rfl, hr, hb⟩ := open_bytes Try.underlying33 Try.underlying5 (by kernel_rfl) h
  have hc : l.length ≤ c := by
    rcases DataW.trod_slice Try.underlying33 h with ⟨e, _⟩ | ⟨a, len, cap, _, _, _, _, e, _, _, hl, _⟩
    · simp only [List.cons.injEq, Value.slice.injEq, and_true] at e; omega
    · simp only [List.cons.injEq, Value.slice.injEq, and_true] at e; omega
  exact ⟨l, ⟨A, c, rfl, hc, hr⟩, by omega⟩

theorem open_bytesCs {fuel : Nat} {cs : List Value} {x : DataW H × List MemPlace} (h : DataW.trod enc Try.prog W 0 (fun _ => true) true fuel 53 cs = some x) :
    ∃ xs : List (List UInt8), SlV BytesCV 1 (Reads W) cs xs ∧ xs.length ≤ Rows.uptoBulk x.1 ∧ ∀ y ∈ xs, y.length ≤ Rows.uptoBulk x.1 := by
  obtain ⟨xs, h1, h2, h3⟩ := open_slV (f := BytesCV) (wt := fun y => y.length) (sz := 1) Try.underlying53 (by kernel_rfl) (by omega) (fun _ _ _ h => open_bytesC h) h
  refine ⟨xs, h1, by omega, fun y hy => ?_⟩
  have h4 : y.length ≤ (xs.map fun y => y.length).sum := by
    clear h1 h2 h3
    induction xs with
    | nil => cases hy
    | cons z xs ih =>
      simp only [List.map_cons, List.sum_cons]
      rcases List.mem_cons.1 hy with rfl | hy
      · omega
      · have := ih hy; omega
  omega
end
end Go.Proofs.Ytdlimjcidblneaa
