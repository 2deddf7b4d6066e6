/-
  A row that a call of the library's has made, as a row of one's own. No Go program in it.
-/
import Derived.Test.YtiofgdgmlnhekaaSl
import Derived.Below
namespace Sl
open Go Go.RowKit

theorem Sat.of_row {w0 w w' : World} {L : List HP} {E : TypeId} {sz n : Nat} {v : Value} {xs : List Value} (hs : Sat w0 w L) (hb : Below w.heap.size w w') (hr : w'.ownsRow w.heap.size E sz v n xs) :
    ∃ A c, v = .slice A n c ∧ Sat w0 w' (own E sz A c n xs :: L) := by
  have hle : (hl w).le (hl w') := fun k o h => by
    have hk : k < w.heap.size := (Array.getElem?_eq_some_iff.1 h).1
    show w'.heap[k]? = some o
    rw [hb.block k hk]; exact h
  obtain ⟨hlen, ⟨rfl, rfl⟩ | ⟨g, cap, cur, rfl, hg, hc, h1, h2, h3, h4⟩⟩ := hr
  · exact ⟨none, 0, rfl, hb.os.trans hs.os, hb.tape.trans hs.tape, hb.output.trans hs.output, fun _ => none, hl w, ⟨hlen, .inl ⟨rfl, rfl, rfl⟩⟩, hs.heap, fun _ _ _ e => (by cases e), fun _ _ e => (by cases e), hle⟩
  · refine ⟨some ⟨g, 0, none⟩, cap, rfl, hb.os.trans hs.os, hb.tape.trans hs.tape, hb.output.trans hs.output, fun k => if k = g then some (.cells cur E (0, 0)) else none, hl w, ⟨hlen, .inr ⟨g, cur, rfl, by simp, h1, h2, h3, h4⟩⟩, hs.heap, ?_, ?_, hle⟩
    · intro k o1 o2 e1 e2
      dsimp only at e1
      split at e1
      · rename_i e; subst e
        have : k < w.heap.size := (Array.getElem?_eq_some_iff.1 e2).1
        omega
      · cases e1
    · intro k o1 e1
      dsimp only at e1
      split at e1
      · rename_i e; subst e; cases e1; exact hc
      · cases e1
end Sl
