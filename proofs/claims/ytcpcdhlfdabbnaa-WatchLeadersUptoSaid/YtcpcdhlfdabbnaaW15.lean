/-
  Records that differ, the other way round; of one list with itself none.
-/
import Derived.Test.YtcpcdhlfdabbnaaW14
namespace Go.Proofs.Ytcpcdhlfdabbnaa
open Go Go.RowKit Sl Go.Shelf

/-- The least i from k on at which a and b differ at the distance d. -/
theorem sameR_self {b : List (List UInt8)} {f : Int} : ∀ {l : List (List UInt8)} {k : Nat}, l = b.drop k → sameR b f f k l = -1
  | [], _, _ => rfl
  | x :: l, k, h => by
    have hx : b[k]? = some x := by
      have := congrArg (fun z : List (List UInt8) => z[0]?) h
      simpa using this.symm
    have hl : l = b.drop (k + 1) := by
      have := congrArg (fun z : List (List UInt8) => z.drop 1) h
      simpa using this
    unfold sameR
    rw [if_neg, sameR_self hl]
    rintro ⟨_, _, h3⟩
    apply h3
    rw [show ((k : Int) + (f - f)).toNat = k from by omega]
    exact hx

/-- What it answers: nothing, or the first place at which they differ. -/
theorem sameR_char {b : List (List UInt8)} {f o : Int} : ∀ {l : List (List UInt8)} {k : Nat},
    (sameR b f o k l = -1 ∧ ∀ j x y, l[j]? = some x → b[(((k + j : Nat) : Int) + (f - o)).toNat]? = some y → 0 ≤ ((k + j : Nat) : Int) + (f - o) → x = y) ∨
    ∃ j x y, sameR b f o k l = f + (k + j : Nat) ∧ l[j]? = some x ∧ 0 ≤ ((k + j : Nat) : Int) + (f - o) ∧ b[(((k + j : Nat) : Int) + (f - o)).toNat]? = some y ∧ x ≠ y ∧
      ∀ j' < j, ∀ x y, l[j']? = some x → b[(((k + j' : Nat) : Int) + (f - o)).toNat]? = some y → 0 ≤ ((k + j' : Nat) : Int) + (f - o) → x = y
  | [], k => .inl ⟨rfl, fun j x y h => by simp at h⟩
  | z :: l, k => by
    unfold sameR
    by_cases hc : 0 ≤ (k : Int) + (f - o) ∧ (k : Int) + (f - o) < b.length ∧ b[((k : Int) + (f - o)).toNat]? ≠ some z
    · rw [if_pos hc]
      obtain ⟨y, hy⟩ : ∃ y, b[((k : Int) + (f - o)).toNat]? = some y := ⟨b[((k : Int) + (f - o)).toNat]'(by omega), List.getElem?_eq_getElem _⟩
      refine .inr ⟨0, z, y, by simp, rfl, by simpa using hc.1, by simpa using hy, fun e => hc.2.2 (by rw [hy, e]), fun j' h => by omega⟩
    · rw [if_neg hc]
      have h0 : ∀ x y, (z :: l)[0]? = some x → b[(((k + 0 : Nat) : Int) + (f - o)).toNat]? = some y → 0 ≤ ((k + 0 : Nat) : Int) + (f - o) → x = y := fun x y h1 h2 h3 => by
        simp only [List.getElem?_cons_zero, Option.some.injEq] at h1
        subst h1
        simp only [Nat.add_zero] at h2 h3
        by_cases e : z = y
        · exact e
        · exfalso
          apply hc
          have hl := (List.getElem?_eq_some_iff.1 h2).1
          exact ⟨h3, by omega, by rw [h2]; intro h; exact e (Option.some.inj h).symm⟩
      rcases sameR_char (b := b) (f := f) (o := o) (l := l) (k := k + 1) with ⟨h1, h2⟩ | ⟨j, x, y, h1, h2, h3, h4, h5, h6⟩
      · refine .inl ⟨h1, fun j x y hx hy h => ?_⟩
        cases j with
        | zero => exact h0 x y hx hy h
        | succ j =>
          have e : k + (j + 1) = k + 1 + j := by omega
          rw [e] at hy h
          exact h2 j x y (by simpa using hx) hy h
      · have e : k + 1 + j = k + (j + 1) := by omega
        rw [e] at h1 h3 h4
        refine .inr ⟨j + 1, x, y, h1, by simpa using h2, h3, h4, h5, fun j' hj x y hx hy h => ?_⟩
        cases j' with
        | zero => exact h0 x y hx hy h
        | succ j' =>
          have e : k + (j' + 1) = k + 1 + j' := by omega
          rw [e] at hy h
          exact h6 j' (by omega) x y (by simpa using hx) hy h

theorem sameR_symm {a b : List (List UInt8)} {f o : Int} : sameR b f o 0 a = sameR a o f 0 b := by
  have back : ∀ {j p : Nat} {x y : List UInt8}, (p : Int) = (j : Int) + (f - o) → a[j]? = some x → b[p]? = some y → a[(((0 + p : Nat) : Int) + (o - f)).toNat]? = some x ∧ b[(((0 + j : Nat) : Int) + (f - o)).toNat]? = some y := fun {j p x y} h hx hy => by
    rw [show (((0 + p : Nat) : Int) + (o - f)).toNat = j from by omega, show (((0 + j : Nat) : Int) + (f - o)).toNat = p from by omega]
    exact ⟨hx, hy⟩
  rcases sameR_char (b := b) (f := f) (o := o) (l := a) (k := 0) with ⟨h1, h2⟩ | ⟨j, x, y, h1, h2, h3, h4, h5, h6⟩
  · rcases sameR_char (b := a) (f := o) (o := f) (l := b) (k := 0) with ⟨g1, _⟩ | ⟨p, y', x', g1, g2, g3, g4, g5, _⟩
    · rw [h1, g1]
    · exfalso
      obtain ⟨j, hj⟩ : ∃ j : Nat, (j : Int) = ((0 + p : Nat) : Int) + (o - f) := ⟨(((0 + p : Nat) : Int) + (o - f)).toNat, by omega⟩
      rw [show (((0 + p : Nat) : Int) + (o - f)).toNat = j from by omega] at g4
      exact g5 (h2 j x' y' g4 (back (by omega) g4 g2).2 (by omega)).symm
  · obtain ⟨p, hp⟩ : ∃ p : Nat, (p : Int) = ((0 + j : Nat) : Int) + (f - o) := ⟨(((0 + j : Nat) : Int) + (f - o)).toNat, by omega⟩
    rw [show (((0 + j : Nat) : Int) + (f - o)).toNat = p from by omega] at h4
    rcases sameR_char (b := a) (f := o) (o := f) (l := b) (k := 0) with ⟨_, g2⟩ | ⟨p', y', x', g1, g2, g3, g4, g5, g6⟩
    · exfalso
      exact h5 (g2 p y x h4 (back (by omega) h2 h4).1 (by omega)).symm
    · obtain ⟨j', hj'⟩ : ∃ j' : Nat, (j' : Int) = ((0 + p' : Nat) : Int) + (o - f) := ⟨(((0 + p' : Nat) : Int) + (o - f)).toNat, by omega⟩
      rw [show (((0 + p' : Nat) : Int) + (o - f)).toNat = j' from by omega] at g4
      have c1 : ¬ j' < j := fun h => g5 (h6 j' h x' y' g4 (back (by omega) g4 g2).2 (by omega)).symm
      have c2 : ¬ p < p' := fun h => h5 (g6 p h y x h4 (back (by omega) h2 h4).1 (by omega)).symm
      rw [h1, g1]
      omega
end Go.Proofs.Ytcpcdhlfdabbnaa
