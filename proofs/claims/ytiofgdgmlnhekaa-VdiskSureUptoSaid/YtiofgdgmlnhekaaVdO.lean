/-
  Arguments of the rows: what room slices have.
-/
import Derived.Test.YtiofgdgmlnhekaaEntL
import Derived.Test.YtiofgdgmlnhekaaVd13
namespace Go.Proofs.Ytiofgdgmlnhekaa
open Go Go.RowKit Sl Go.Deep Go.ChangeShapes Go.WideShapes Go.ChangeAt

section
variable {H : Type} {enc : TypeId × Value → H} {W : World}
theorem open_capD {T E : TypeId} {fuel : Nat} {A : Option Addr} {n c : Nat} {x : DataW H × List MemPlace} (hT : Try.prog.underlying T = some (.slice E)) (h : DataW.trod enc Try.prog W 0 (fun _ => true) true fuel T [.slice A n c] = some x) : n ≤ c := by
  rcases DataW.trod_slice hT h with ⟨e, _⟩ | ⟨a, len, cap, _, _, _, _, e, _, _, hl, _⟩
  · simp only [List.cons.injEq, Value.slice.injEq, and_true] at e; omega
  · simp only [List.cons.injEq, Value.slice.injEq, and_true] at e; omega
theorem open_stringV {T : TypeId} {fuel : Nat} {cs : List Value} {x : DataW H × List MemPlace} (hT : Try.prog.underlying T = some .string)
    (h : DataW.trod enc Try.prog W 0 (fun _ => true) true fuel T cs = some x) : ∃ l : Nm, cs = [sV l] ∧ l.length + 1 ≤ Rows.uptoBulk x.1 := by
  obtain ⟨s, rfl, rfl, _⟩ := DataW.trod_string hT h
  refine ⟨s.data.toList, ?_, by simp [Rows.uptoBulk]⟩
  show [Value.string s] = [Value.string ⟨s.data.toList.toArray⟩]
  simp

/-- An operation of a disk. -/
structure VOp where
  k : Int
  nm : Nm
  to : Nm
  b : List UInt8
  n : Int
  ch : List Int

def in64V (x : Int) : Prop := -9223372036854775808 ≤ x ∧ x ≤ 9223372036854775807
/-- Its cells. -/
def VOpV : IsV VOp := fun R cs y => ∃ A cb C cc, cs = [.int .i64 y.k, sV y.nm, sV y.to, .slice A y.b.length cb, .int .i64 y.n, .slice C y.ch.length cc] ∧ R A y.b.length 1 (B8 y.b) ∧ R C y.ch.length 1 (Z8 y.ch) ∧ y.ch.length ≤ cc ∧ in64V y.k ∧ in64V y.n ∧ ∀ x ∈ y.ch, in64V x

theorem VOpV.mono : IsV.Mono VOpV := fun _ _ h _ _ ⟨A, cb, C, cc, e, h1, h2, h3⟩ => ⟨A, cb, C, cc, e, h _ _ _ _ h1, h _ _ _ _ h2, h3⟩
def VOp.wt (y : VOp) : Nat := y.nm.length + y.to.length + y.b.length + y.ch.length

set_option maxRecDepth 100000 in
theorem open_vop {fuel : Nat} {cs : List Value} {x : DataW H × List MemPlace} (h : DataW.trod enc Try.prog W 0 (fun _ => true) true fuel 44 cs = some x) : ∃ y : VOp, VOpV (Reads W) cs y ∧ y.wt ≤ Rows.uptoBulk x.1 := by
  obtain ⟨xs, n, _, rfl, hl, hlen, hf⟩ := DataW.trod_struct Try.underlying44 h
  rw [show Try.prog.cellsOf 44 = 6 from by kernel_rfl] at hl
  match cs, hl with
  | [c0, c1, c2, c3, c4, c5], _ =>
  match xs, hlen with
  | [y0, y1, y2, y3, y4, y5], _ =>
    have h0 := hf 0 _ rfl
    have h1 := hf 1 _ rfl
    have h2 := hf 2 _ rfl
    have h3 := hf 3 _ rfl
    have h4 := hf 4 _ rfl
    have h5 := hf 5 _ rfl
    dsimp only [List.getElem_toArray, List.getElem_cons_zero, List.getElem_cons_succ] at h0 h1 h2 h3 h4 h5
    rw [show Try.prog.cellsOf 3 = 1 from by kernel_rfl] at h0 h4
    rw [show Try.prog.cellsOf 9 = 1 from by kernel_rfl] at h1 h2
    rw [show Try.prog.cellsOf 22 = 1 from by kernel_rfl] at h3
    rw [show Try.prog.cellsOf 33 = 1 from by kernel_rfl] at h5
    obtain ⟨t, e0, b0, w0⟩ := open_intV Try.underlying3 h0
    obtain ⟨nm, e1, w1⟩ := open_stringV Try.underlying9 h1
    obtain ⟨to, e2, w2⟩ := open_stringV Try.underlying9 h2
    obtain ⟨d, ⟨A, c, e3, hr⟩, w3⟩ := open_bytesV Try.underlying22 Try.underlying5 (by kernel_rfl) h3
    obtain ⟨i, e4, b4, w4⟩ := open_intV Try.underlying3 h4
    obtain ⟨C, m, cc, l, e5, hm, hr5, w5, b5⟩ := open_ints' Try.underlying33 Try.underlying3 (by kernel_rfl) h5
    rw [e5] at h5
    have hcap := open_capD Try.underlying33 h5
    simp at e0 e1 e2 e3 e4 e5
    subst e0 e1 e2 e3 e4 e5
    subst hm
    refine ⟨⟨t, nm, to, d, i, l⟩, ⟨A, c, C, cc, rfl, hr, hr5, hcap, b0, b4, b5⟩, ?_⟩
    simp [VOp.wt, Rows.uptoBulk, Rows.uptoBulkAll]; omega
end
end Go.Proofs.Ytiofgdgmlnhekaa
