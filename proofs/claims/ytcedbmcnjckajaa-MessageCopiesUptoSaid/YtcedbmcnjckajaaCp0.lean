/-
  Rows of rows that are written: resources in a bag; a store into a row of structs. No Go program in it.
-/
import Derived.Test.YtcedbmcnjckajaaEnts
namespace Sl
open Go Go.RowKit

section
variable {P : Program} {K : Act → World → Prop} {Q : Exit → Act → World → Prop} {a : Act} {w0 w : World} {L : List HP}
variable {dst : Option Tmp} {ty : TypeId} {pos : String} {aft : Array Edge} {gd : Option (Nat × Bool)}

/-- A store into a cell of an element of a slice of one's own. -/
theorem st_store_cell {T : TypeId} {x y : Operand} {b i c n sz : Nat} {xs : List Value} {E : TypeId} {v z : Value} {by_ : Nat} {L' : List HP} [hi : Inf P T z 1 by_] (hs : Sat w0 w L) (hx : a.eval x = .pointer (some ⟨b, i, none⟩)) (hy : a.eval y = v)
    (ho : Out (own E sz (some ⟨b, 0, none⟩) c n xs) L L') (hn : v.cells = #[v]) (h1 : v.oneCell' = true) (hlt : i < n * sz)
    (h : ∀ w1, Sat w0 w1 (own E sz (some ⟨b, 0, none⟩) c n (xs.set i v) :: L') → K (a.put dst undef) w1) : Oper.wp P ⟨dst, .store T x y, ty, pos, aft, gd⟩ a w K Q := by
  obtain ⟨hl, hc⟩ := (hs.out ho).own_inv
  rcases hc with ⟨e, _⟩ | ⟨g, cur, e, hb, h3, h4, h5, h6⟩
  · cases e
  · cases e
    have := Nat.mul_le_mul_right sz h3
    refine st_store1 hb hx hy (.here _) hn h1 (by omega) fun w1 hw => h w1 ?_
    refine Sat.own_mk hw (by simpa using hl) h3 h4 (by simpa using h5) ?_
    rw [← h6]
    simp [List.take_set]

/-- A row of one's own, whatever it holds. -/
def ownAny (E : TypeId) (A : Option Addr) (c n : Nat) : HP := fun h => ∃ xs, own E 1 A c n xs h

theorem Sat.any {E : TypeId} {A : Option Addr} {c n : Nat} {xs : List Value} (hs : Sat w0 w (own E 1 A c n xs :: L)) : Sat w0 w (ownAny E A c n :: L) := hs.to_head fun _ h => ⟨xs, h⟩
theorem Sat.any_open {E : TypeId} {A : Option Addr} {c n : Nat} (hs : Sat w0 w (ownAny E A c n :: L)) : ∃ xs, Sat w0 w (own E 1 A c n xs :: L) := hs.ex

theorem Sat.bag_nil (hs : Sat w0 w L) : Sat w0 w (SatH [] :: L) := Sat.join (M := []) hs

theorem Sat.bag_snoc {M : List HP} {p : HP} (hs : Sat w0 w (p :: SatH M :: L)) : Sat w0 w (SatH (M ++ [p]) :: L) := by
  have h2 := hs.swap.split
  refine Sat.join ?_
  rw [List.append_assoc]
  exact h2

theorem Sat.bag_snoc2 {M : List HP} {X p : HP} (hs : Sat w0 w (p :: X :: SatH M :: L)) : Sat w0 w (X :: SatH (M ++ [p]) :: L) := by
  have h1 : Sat w0 w (p :: SatH M :: X :: L) := hs.perm ((List.Perm.swap _ _ _).cons _)
  exact h1.bag_snoc.swap

theorem perm_at {α : Type} {p : α} : ∀ {M : List α} {i : Nat}, M[i]? = some p → M.Perm (p :: M.eraseIdx i)
  | [], i, h => by simp at h
  | x :: M, 0, h => by simp at h; subst h; exact .refl _
  | x :: M, i + 1, h => by
    have h1 : M[i]? = some p := by simpa using h
    exact ((perm_at h1).cons x).trans (.swap _ _ _)

theorem Sat.bag_take {M : List HP} {i : Nat} {p : HP} (hi : M[i]? = some p) (hs : Sat w0 w (SatH M :: L)) : Sat w0 w (p :: SatH (M.eraseIdx i) :: L) := by
  have h2 : Sat w0 w ((p :: M.eraseIdx i) ++ L) := hs.split.perm ((perm_at hi).append_right L)
  have h3 : Sat w0 w (M.eraseIdx i ++ (p :: L)) := h2.perm List.perm_middle.symm
  exact h3.join.swap

theorem Sat.bag_put {M : List HP} {i : Nat} {p : HP} (hi : M[i]? = some p) (hs : Sat w0 w (p :: SatH (M.eraseIdx i) :: L)) : Sat w0 w (SatH M :: L) := by
  have h3 : Sat w0 w (M.eraseIdx i ++ (p :: L)) := hs.swap.split
  have h2 : Sat w0 w ((p :: M.eraseIdx i) ++ L) := h3.perm List.perm_middle
  exact (h2.perm ((perm_at hi).symm.append_right L)).join

/-- A store into a row of one's own, whatever it holds. -/
theorem st_store_any {T : TypeId} {x y : Operand} {b i c n : Nat} {E : TypeId} {v z : Value} {by_ : Nat} {L' : List HP} [hi : Inf P T z 1 by_] (hs : Sat w0 w L) (hx : a.eval x = .pointer (some ⟨b, i, none⟩)) (hy : a.eval y = v)
    (ho : Out (ownAny E (some ⟨b, 0, none⟩) c n) L L') (hn : v.cells = #[v]) (h1 : v.oneCell' = true) (hlt : i < n)
    (h : ∀ w1, Sat w0 w1 (ownAny E (some ⟨b, 0, none⟩) c n :: L') → K (a.put dst undef) w1) : Oper.wp P ⟨dst, .store T x y, ty, pos, aft, gd⟩ a w K Q := by
  obtain ⟨xs, hx'⟩ := (hs.out ho).any_open
  exact st_store_own hx' hx hy (.here _) hn h1 hlt fun w1 hw => h w1 hw.any

theorem Sat.any_some {E : TypeId} {A : Option Addr} {c n : Nat} (h : Sat w0 w (ownAny E A c n :: L)) (hn : 0 < n) : ∃ g, A = some ⟨g, 0, none⟩ := by
  obtain ⟨xs, hx⟩ := h.any_open
  exact hx.own_some hn
end
#print axioms Sat.bag_put
end Sl
