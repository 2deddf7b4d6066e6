/-
  A list of operations of a machine, opened.
-/
import Derived.Test.YtdlimjcidblneaaOp8
import Derived.Test.YtdlimjcidblneaaEntL
namespace Go.Proofs.Ytdlimjcidblneaa
open Go Go.RowKit Sl Go.Deep Go.ChangeShapes Go.WideShapes Go.ChangeAt

section
variable {H : Type} {enc : TypeId × Value → H} {W : World}
set_option maxRecDepth 100000 in
theorem open_op08 {fuel : Nat} {cs : List Value} {x : DataW H × List MemPlace} (h : DataW.trod enc Try.prog W 0 (fun _ => true) true fuel 64 cs = some x) : ∃ y : OpD, OpV (Reads W) cs y ∧ y.b.length ≤ Rows.uptoBulk x.1 := by
  obtain ⟨xs, n, _, rfl, hl, hlen, hf⟩ := DataW.trod_struct Try.underlying64 h
  rw [show Try.prog.cellsOf 64 = 4 from by kernel_rfl] at hl
  match cs, hl with
  | [c0, c1, c2, c3], _ =>
  match xs, hlen with
  | [y0, y1, y2, y3], _ =>
    have h0 := hf 0 _ rfl
    have h1 := hf 1 _ rfl
    have h2 := hf 2 _ rfl
    have h3 := hf 3 _ rfl
    dsimp only [List.getElem_toArray, List.getElem_cons_zero, List.getElem_cons_succ] at h0 h1 h2 h3
    rw [show Try.prog.cellsOf 3 = 1 from by kernel_rfl] at h0 h2 h3
    rw [show Try.prog.cellsOf 33 = 1 from by kernel_rfl] at h1
    obtain ⟨t, e0, b0, w0⟩ := open_intV Try.underlying3 h0
    obtain ⟨d, ⟨A, c, e1, hr⟩, w1⟩ := open_bytesV Try.underlying33 Try.underlying5 (by kernel_rfl) h1
    obtain ⟨i, e2, b2, w2⟩ := open_intV Try.underlying3 h2
    obtain ⟨k, e3, b3, w3⟩ := open_intV Try.underlying3 h3
    simp at e0 e1 e2 e3
    subst e0 e1 e2 e3
    refine ⟨⟨t, d, i, k⟩, ⟨A, c, rfl, hr⟩, ?_⟩
    simp [Rows.uptoBulk, Rows.uptoBulkAll]; omega

theorem open_ops08 {fuel : Nat} {cs : List Value} {x : DataW H × List MemPlace} (h : DataW.trod enc Try.prog W 0 (fun _ => true) true fuel 62 cs = some x) :
    ∃ xs : List OpD, SlV OpV 4 (Reads W) cs xs ∧ xs.length ≤ Rows.uptoBulk x.1 ∧ ∀ y ∈ xs, y.b.length ≤ Rows.uptoBulk x.1 := by
  obtain ⟨xs, h1, h2, h3⟩ := open_slV (f := OpV) (wt := fun y => y.b.length) (sz := 4) Try.underlying62 (by kernel_rfl) (by omega) (fun _ _ _ h => open_op08 h) h
  refine ⟨xs, h1, by omega, fun y hy => ?_⟩
  have h4 : y.b.length ≤ (xs.map fun y => y.b.length).sum := by
    clear h1 h2 h3
    induction xs with
    | nil => cases hy
    | cons z xs ih =>
      simp only [List.map_cons, List.sum_cons]
      rcases List.mem_cons.1 hy with rfl | hy
      · omega
      · have := ih hy; omega
  omega
end
end Go.Proofs.Ytdlimjcidblneaa
