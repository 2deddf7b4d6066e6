/-
  An argument that is a message, opened.
-/
import Derived.Test.YtcedbmcnjckajaaMsg9
import Derived.Test.YtcedbmcnjckajaaOpen2
namespace Go.Proofs.Ytcedbmcnjckajaa
open Go Go.RowKit Sl Go.Shelf Go.Deep

theorem mem_le_sum (l : List Ent) : ∀ e ∈ l, e.d.length ≤ (l.map fun e => e.d.length).sum := by
  induction l with
  | nil => intro e h; cases h
  | cons a l ih =>
    intro e h
    simp only [List.map_cons, List.sum_cons]
    rcases List.mem_cons.1 h with rfl | h
    · omega
    · have := ih e h; omega

section
variable {H : Type} {enc : TypeId × Value → H} {W : World}
set_option maxRecDepth 100000 in
set_option maxHeartbeats 4000000 in
theorem open_message {fuel : Nat} {cs : List Value} {x : DataW H × List MemPlace} (h : DataW.trod enc Try.prog W 0 (fun _ => true) true fuel 26 cs = some x) :
    ∃ (m : Msg) (A B C : Option Addr) (ca cb cc : Nat), cs = (msgCells m A B C ca cb cc).toList ∧ SlV EntV 4 (Reads W) [.slice A m.es.length ca] m.es ∧ Reads W B m.sv.length 1 (I8 m.sv) ∧ Reads W C m.dt.length 1 (B8 m.dt) ∧
      m.es.length + (m.es.map fun e => e.d.length).sum + m.sv.length + m.dt.length ≤ 2 * Rows.uptoBulk x.1 ∧ m.es.length ≤ Rows.uptoBulk x.1 ∧ m.sv.length ≤ Rows.uptoBulk x.1 ∧ m.dt.length ≤ Rows.uptoBulk x.1 ∧ (∀ e ∈ m.es, e.d.length ≤ Rows.uptoBulk x.1) := by
  obtain ⟨xs, n, _, rfl, hl, hlen, hf⟩ := DataW.trod_struct Try.underlying26 h
  rw [show Try.prog.cellsOf 26 = 12 from by kernel_rfl] at hl
  match cs, hl with
  | [c0, c1, c2, c3, c4, c5, c6, c7, c8, c9, c10, c11], _ =>
  match xs, hlen with
  | [y0, y1, y2, y3, y4, y5, y6, y7, y8, y9, y10, y11], _ =>
    have h0 := hf 0 _ rfl
    have h1 := hf 1 _ rfl
    have h2 := hf 2 _ rfl
    have h3 := hf 3 _ rfl
    have h4 := hf 4 _ rfl
    have h5 := hf 5 _ rfl
    have h6 := hf 6 _ rfl
    have h7 := hf 7 _ rfl
    have h8 := hf 8 _ rfl
    have h9 := hf 9 _ rfl
    have h10 := hf 10 _ rfl
    have h11 := hf 11 _ rfl
    dsimp only [List.getElem_toArray, List.getElem_cons_zero, List.getElem_cons_succ] at h0 h1 h2 h3 h4 h5 h6 h7 h8 h9 h10 h11
    rw [show Try.prog.cellsOf 3 = 1 from by kernel_rfl] at h0 h1 h2 h3 h4 h5 h6 h7
    rw [show Try.prog.cellsOf 4 = 1 from by kernel_rfl] at h8
    rw [show Try.prog.cellsOf 22 = 1 from by kernel_rfl] at h9
    rw [show Try.prog.cellsOf 23 = 1 from by kernel_rfl] at h10
    rw [show Try.prog.cellsOf 24 = 1 from by kernel_rfl] at h11
    obtain ⟨kd, e0, b0, w0⟩ := open_intV Try.underlying3 h0
    obtain ⟨fr, e1, b1, w1⟩ := open_intV Try.underlying3 h1
    obtain ⟨dn, e2, b2, w2⟩ := open_intV Try.underlying3 h2
    obtain ⟨tm, e3, b3, w3⟩ := open_intV Try.underlying3 h3
    obtain ⟨na, e4, b4, w4⟩ := open_intV Try.underlying3 h4
    obtain ⟨nb, e5, b5, w5⟩ := open_intV Try.underlying3 h5
    obtain ⟨nc, e6, b6, w6⟩ := open_intV Try.underlying3 h6
    obtain ⟨nd, e7, b7, w7⟩ := open_intV Try.underlying3 h7
    obtain ⟨yes, e8, w8⟩ := open_boolV Try.underlying4 h8
    obtain ⟨es, ⟨A, ca, vs, e9, hr9⟩, w9, u9⟩ := open_slV (f := EntV) (wt := fun e => e.d.length) (sz := 4) Try.underlying22 (by kernel_rfl) (by omega) (fun _ _ _ h => by obtain ⟨e, h1, h2⟩ := open_entry h; exact ⟨e, h1, by omega⟩) h9
    obtain ⟨B, nB, cb, sv, e10, hnB, hr10, w10, _⟩ := open_ints' Try.underlying23 Try.underlying3 (by kernel_rfl) h10
    obtain ⟨dt, ⟨C, cc, e11, hr11⟩, w11⟩ := open_bytesV Try.underlying24 Try.underlying5 (by kernel_rfl) h11
    subst hnB
    simp at e0 e1 e2 e3 e4 e5 e6 e7 e8 e9 e10 e11
    subst e0 e1 e2 e3 e4 e5 e6 e7 e8 e9 e10 e11
    have hx : ∀ e ∈ es, e.d.length ≤ (es.map fun e => e.d.length).sum := fun e he => mem_le_sum es e he
    refine ⟨⟨kd, fr, dn, tm, na, nb, nc, nd, yes, es, sv, dt⟩, A, B, C, ca, cb, cc, rfl, ⟨A, ca, vs, rfl, hr9⟩, hr10, hr11, ?_⟩
    refine ⟨?_, ?_, ?_, ?_, fun e he => ?_⟩
    · simp [Rows.uptoBulk, Rows.uptoBulkAll]; omega
    · simp [Rows.uptoBulk, Rows.uptoBulkAll]; omega
    · simp [Rows.uptoBulk, Rows.uptoBulkAll]; omega
    · simp [Rows.uptoBulk, Rows.uptoBulkAll]; omega
    · have := hx e he; simp [Rows.uptoBulk, Rows.uptoBulkAll]; omega
end
end Go.Proofs.Ytcedbmcnjckajaa
