/-
  A slice of many structs that is built at once. No Go program in it.
-/
import Derived.Test.YtcpcdhlfdabbnaaEnts
namespace Sl
open Go Go.RowKit

theorem fold_off (l : List Value) (off : Nat) : ∀ (k : Nat) (cs : Array Value), (l.zipIdx k).foldl (fun (cs : Array Value) (x : Value × Nat) => cs.setIfInBounds (off + x.2) x.1) cs = (l.zipIdx (off + k)).foldl (fun (cs : Array Value) (x : Value × Nat) => cs.setIfInBounds x.2 x.1) cs := by
  induction l with
  | nil => intro k cs; rfl
  | cons v l ih =>
    intro k cs
    simp only [List.zipIdx_cons, List.foldl_cons]
    rw [ih (k + 1)]
    rfl

theorem fill_many {sz : Nat} {place : Nat → Option (Nat × Nat)} (hp : ∀ i, place i = some (i * sz, sz)) : ∀ (vs : List Value) (k : Nat) (cells : Array Value), (∀ v ∈ vs, v.cells.size = sz) → (k + vs.length) * sz ≤ cells.size →
    Instr.fill place cells (vs.zipIdx k |>.map fun x => (x.2, x.1)) = some (cells.toList.take (k * sz) ++ (vs.map fun v => v.cells.toList).flatten ++ cells.toList.drop ((k + vs.length) * sz)).toArray
  | [], k, cells, _, _ => by simp [Instr.fill]
  | v :: vs, k, cells, h1, hk => by
    have hv := h1 v (by simp)
    simp only [List.length_cons] at hk
    have e1 : (k + (vs.length + 1)) * sz = k * sz + sz + vs.length * sz := by rw [Nat.add_mul, Nat.add_mul, Nat.one_mul]; omega
    have e2 : (k + 1 + vs.length) * sz = k * sz + sz + vs.length * sz := by rw [Nat.add_mul, Nat.add_mul, Nat.one_mul]
    simp only [List.zipIdx_cons, List.map_cons, Instr.fill, hp]
    rw [if_neg (by simp [hv]; omega)]
    obtain ⟨c2, hc2⟩ : ∃ c2, Array.foldl (fun (cs : Array Value) (x : Value × Nat) => cs.setIfInBounds (k * sz + x.2) x.1) cells v.cells.zipIdx = c2 := ⟨_, rfl⟩
    have hl : c2.toList = cells.toList.take (k * sz) ++ v.cells.toList ++ cells.toList.drop (k * sz + sz) := by
      rw [← hc2, ← Array.foldl_toList, Array.toList_zipIdx, fold_off, Nat.add_zero, fold_set _ _ _ (by simp [hv]; omega)]
      simp [hv]
    have hs2 : c2.size = cells.size := by
      have := congrArg List.length hl
      simp [hv] at this
      omega
    have ih := fill_many hp vs (k + 1) c2 (fun u hu => h1 u (by simp [hu])) (by rw [hs2, e2]; omega)
    have hc3 : Array.foldl (fun (cs : Array Value) (x : Value × Nat) => match x with | (c, j) => cs.setIfInBounds (k * sz + j) c) cells v.cells.zipIdx = c2 := hc2
    rw [hc3, ih, hl]
    congr 2
    have hk1 : (k + 1) * sz = k * sz + sz := by rw [Nat.add_mul, Nat.one_mul]
    have ht : (cells.toList.take (k * sz)).length = k * sz := by simp; omega
    have hlen2 : (cells.toList.take (k * sz) ++ v.cells.toList).length = k * sz + sz := by rw [List.length_append, ht]; simp [hv]
    rw [hk1, List.take_left' hlen2, e2, show k * sz + sz + vs.length * sz = (k * sz + sz) + vs.length * sz from rfl, List.drop_append, hlen2]
    rw [List.drop_eq_nil_of_le (by rw [hlen2]; omega), List.nil_append, List.drop_drop, List.length_cons, e1]
    simp only [List.flatten_cons, List.append_assoc]
    congr 3
    congr 1
    omega

section
variable {P : Program} {K : Act → World → Prop} {Q : Exit → Act → World → Prop} {a : Act} {w0 w : World} {L M : List HP}
variable {dst : Option Tmp} {ty : TypeId} {pos : String} {aft : Array Edge} {gd : Option (Nat × Bool)}
/-- 'T{v0, v1, ..}', a slice of structs. -/
theorem st_buildMany {T E : TypeId} {sz n : Nat} {parts : Array (Nat × Operand)} {vs : List Value} {z : Value} {by_ : Nat} [hT : SlT P T E] [hi : Inf P E z sz by_] (hs : Sat w0 w L)
    (hp : parts.toList.map (fun x => (x.1, a.eval x.2)) = vs.zipIdx.map fun x => (x.2, x.1)) (hn : vs.length = n) (h1 : ∀ v ∈ vs, v.cells.size = sz) (h0 : 0 < n) (hz0 : 0 < sz) (hb : n * sz ≤ 65536)
    (h : ∀ b w1, Sat w0 w1 (own E sz (some ⟨b, 0, none⟩) n n (vs.map fun v => v.cells.toList).flatten :: L) → K (a.put dst (.slice (some ⟨b, 0, none⟩) n n)) w1) :
    Oper.wp P ⟨dst, .buildSlice T n parts, ty, pos, aft, gd⟩ a w K Q := by
  obtain ⟨i, g1, g2, g3, g4, g5⟩ := hi.h
  subst g3
  have hfl : ((vs.map fun v => v.cells.toList).flatten).length = n * i.size := by
    rw [← hn]
    clear hp hn hb h
    induction vs with
    | nil => simp
    | cons v vs ih =>
      simp only [List.map_cons, List.flatten_cons, List.length_append, List.length_cons, Array.length_toList]
      rw [ih (fun u hu => h1 u (by simp [hu])), h1 v (by simp), Nat.add_mul, Nat.one_mul]; omega
  have hf := fill_many (place := fun k => some (k * i.size, i.size)) (fun _ => rfl) vs 0 ((Array.range (n * i.size)).map fun j => z.cells[j % z.cells.size]!) h1 (by simp [hn])
  simp only [Nat.zero_mul, List.take_zero, List.nil_append, Nat.zero_add, hn] at hf
  rw [List.drop_eq_nil_of_le (by simp), List.append_nil] at hf
  refine st_do rfl (v := .slice (some ⟨w.heap.size, 0, none⟩) n n) (w' := w.alloc (.cells (vs.map fun v => v.cells.toList).flatten.toArray E)) ?_ (h _ _ (Sat.own_mk (hs.alloc _) hfl (Nat.le_refl _) (by have := Nat.le_mul_of_pos_right n hz0; simp only [maxLen]; omega) (by simpa using hfl) (by show List.take (n * i.size) (List.flatten _) = _; exact List.take_of_length_le (by rw [hfl]; exact Nat.le_refl _))))
  have hz : ¬ (16777216 < n * i.size) := by omega
  have hz1 : ¬ n * i.size = 0 := by have := Nat.mul_pos h0 hz0; omega
  simp [execOp, Instr.buildSlice, run_underlying hT.h, Go.sizeOf, typeInfo, zeroValue, newRow, g1, g2, hz, hp, hf]
  intro h9
  exact absurd h9 hz1
end
#print axioms st_buildMany
end Sl
