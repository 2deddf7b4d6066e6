/-
  A list of tries, opened.
-/
import Derived.Test.YtdlimjcidblneaaMo2
import Derived.Test.YtdlimjcidblneaaEntL
namespace Go.Proofs.Ytdlimjcidblneaa
open Go Go.RowKit Sl Go.Deep Go.ChangeShapes Go.WideShapes Go.ChangeAt

theorem TryV.mono : IsV.Mono TryV := fun _ _ _ _ _ h => h

section
variable {H : Type} {enc : TypeId × Value → H} {W : World}
set_option maxRecDepth 100000 in
theorem open_try {fuel : Nat} {cs : List Value} {x : DataW H × List MemPlace} (h : DataW.trod enc Try.prog W 0 (fun _ => true) true fuel 38 cs = some x) : ∃ y : TryD, TryV (Reads W) cs y := by
  obtain ⟨xs, n, _, rfl, hl, hlen, hf⟩ := DataW.trod_struct Try.underlying38 h
  rw [show Try.prog.cellsOf 38 = 3 from by kernel_rfl] at hl
  match cs, hl with
  | [c0, c1, c2], _ =>
  match xs, hlen with
  | [y0, y1, y2], _ =>
    have h0 := hf 0 _ rfl
    have h1 := hf 1 _ rfl
    have h2 := hf 2 _ rfl
    dsimp only [List.getElem_toArray, List.getElem_cons_zero, List.getElem_cons_succ] at h0 h1 h2
    rw [show Try.prog.cellsOf 3 = 1 from by kernel_rfl] at h0 h1
    rw [show Try.prog.cellsOf 5 = 1 from by kernel_rfl] at h2
    obtain ⟨a, e0, _, _⟩ := open_intV Try.underlying3 h0
    obtain ⟨b, e1, _, _⟩ := open_intV Try.underlying3 h1
    obtain ⟨v, e2, _, hw⟩ := DataW.trod_int Try.underlying5 h2
    obtain ⟨c, hc⟩ := wf_u8 hw
    simp at e0 e1 e2
    subst e0 e1 e2
    exact ⟨⟨a, b, c⟩, v, rfl, by rw [hc]; rfl⟩

theorem open_trys {fuel : Nat} {cs : List Value} {x : DataW H × List MemPlace} (h : DataW.trod enc Try.prog W 0 (fun _ => true) true fuel 22 cs = some x) :
    ∃ xs : List TryD, SlV TryV 3 (Reads W) cs xs ∧ xs.length ≤ Rows.uptoBulk x.1 := by
  obtain ⟨xs, h1, h2, _⟩ := open_slV (f := TryV) (wt := fun _ => 0) (sz := 3) Try.underlying22 (by kernel_rfl) (by omega) (fun _ _ _ h => by obtain ⟨y, hy⟩ := open_try h; exact ⟨y, hy, Nat.zero_le _⟩) h
  exact ⟨xs, h1, by omega⟩
end
end Go.Proofs.Ytdlimjcidblneaa
