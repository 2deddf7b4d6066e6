/-
  Entries in a row of one's own: cells, data.
-/
import Derived.Test.YtcpcdhlfdabbnaaEnt3
import Derived.Test.YtcpcdhlfdabbnaaEnts
import Derived.Test.YtcpcdhlfdabbnaaOpen2
namespace Go.Proofs.Ytcpcdhlfdabbnaa
open Go Go.RowKit Sl Go.Shelf
set_option maxHeartbeats 4000000
set_option maxRecDepth 8000

/-- An entry's four cells, its bytes at p. -/
def entCells (x : Ent) (p : Option Addr × Nat) : List Value := [.int .i64 x.t, .int .i64 x.i, .int .i64 x.k, .slice p.1 x.d.length p.2]
def entsCells (l : List (Ent × Option Addr × Nat)) : List Value := (l.map fun y => entCells y.1 y.2).flatten
def entsData (l : List (Ent × Option Addr × Nat)) : List (Option Addr × List UInt8) := l.map fun y => (y.2.1, y.1.d)

theorem entsCells_length (l : List (Ent × Option Addr × Nat)) : (entsCells l).length = l.length * 4 := by
  induction l with
  | nil => rfl
  | cons y l ih => simp only [entsCells, List.map_cons, List.flatten_cons, List.length_append, List.length_cons] at ih ⊢; rw [ih]; simp [entCells]; omega

theorem entsCells_at (l : List (Ent × Option Addr × Nat)) : ∀ (i : Nat) (y : Ent × Option Addr × Nat), l[i]? = some y → ((entsCells l).drop (i * 4)).take 4 = entCells y.1 y.2 := by
  induction l with
  | nil => intro i y h; simp at h
  | cons z l ih =>
    intro i y h
    have e : entsCells (z :: l) = entCells z.1 z.2 ++ entsCells l := by simp [entsCells]
    cases i with
    | zero => simp at h; subst h; rw [e]; simp [entCells]
    | succ i =>
      have h' : l[i]? = some y := by simpa using h
      rw [e, show (i + 1) * 4 = 4 + i * 4 from by omega, ← List.drop_drop]
      rw [show (entCells z.1 z.2 ++ entsCells l).drop 4 = entsCells l from by simp [entCells]]
      exact ih i y h'

theorem entsCells_snoc (l : List (Ent × Option Addr × Nat)) (y : Ent × Option Addr × Nat) : entsCells (l ++ [y]) = entsCells l ++ entCells y.1 y.2 := by simp [entsCells]

theorem entsCells_one (l : List (Ent × Option Addr × Nat)) : ∀ u ∈ entsCells l, u.oneCell' = true := by
  intro u hu
  simp only [entsCells, List.mem_flatten, List.mem_map] at hu
  obtain ⟨c, ⟨y, _, rfl⟩, hu⟩ := hu
  simp only [entCells, List.mem_cons, List.not_mem_nil, or_false] at hu
  rcases hu with rfl | rfl | rfl | rfl <;> rfl

/-- Entries of one's own, as a slice of structs that reads. -/
theorem ents_slV {w0 : World} {L : List HP} {A : Option Addr} {c : Nat} (l : List (Ent × Option Addr × Nat)) (h64 : ∀ y ∈ l, In64 y.1.t ∧ In64 y.1.i ∧ In64 y.1.k)
    (hR : Rd w0 L A l.length 4 (entsCells l)) (hD : ∀ y ∈ l, Rd w0 L y.2.1 y.1.d.length 1 (B8 y.1.d)) : SlV EntV 4 (Rd w0 L) [.slice A l.length c] (l.map (·.1)) := by
  refine ⟨A, c, entsCells l, by simp, by simpa using hR, by rw [entsCells_length]; simp, fun i x hx => ?_⟩
  rw [List.getElem?_map] at hx
  cases hy : l[i]? with
  | none => rw [hy] at hx; simp at hx
  | some y =>
    rw [hy] at hx
    simp only [Option.map_some, Option.some.injEq] at hx
    subst hx
    have hm := List.mem_of_getElem? hy
    refine ⟨⟨y.2.1, y.2.2, entsCells_at l i y hy, hD y hm⟩, h64 y hm⟩

theorem entsData_snoc (l : List (Ent × Option Addr × Nat)) (y : Ent × Option Addr × Nat) : entsData (l ++ [y]) = entsData l ++ [(y.2.1, y.1.d)] := by simp [entsData]

theorem take_snoc {α : Type} {es : List α} {k : Nat} {x : α} (h : es[k]? = some x) : es.take (k + 1) = es.take k ++ [x] := by rw [List.take_add_one, h]; rfl


theorem ents_slV' {w0 : World} {L : List HP} {A : Option Addr} {c : Nat} {es : List Ent} (ys : List (Ent × Option Addr × Nat)) (hy : ys.map (·.1) = es) (h64 : ∀ x ∈ es, In64 x.t ∧ In64 x.i ∧ In64 x.k) :
    SlV EntV 4 (Rd w0 (own 46 4 A c es.length (entsCells ys) :: DV (entsData ys) :: L)) [.slice A es.length c] es := by
  subst hy
  rw [List.length_map]
  refine ents_slV ys (fun y hm => h64 y.1 (List.mem_map_of_mem hm)) Rd.own fun y hm => ?_
  exact (DV.rd (List.mem_map.2 ⟨y, hm, rfl⟩)).cons

theorem ents_in {w0 : World} {L : List HP} {A : Option Addr} {c : Nat} {es : List Ent} (h : SlV EntV 4 (Rd w0 L) [.slice A es.length c] es) : ∀ x ∈ es, In64 x.t ∧ In64 x.i ∧ In64 x.k := by
  obtain ⟨_, _, vs, _, _, _, hel⟩ := h
  intro x hx
  obtain ⟨k, hk⟩ := List.mem_iff_getElem?.1 hx
  exact (hel k x hk).2
end Go.Proofs.Ytcpcdhlfdabbnaa
