/-
  Windows of slices of structs: 's[:k]', 's[k:]'. No Go program in it.
-/
import Derived.Test.YtcpcdhlfdabbnaaShape
import Derived.Test.YtcpcdhlfdabbnaaSlOpsSt
namespace Sl
open Go Go.RowKit

theorem rd_win {w0 : World} {L : List HP} {A : Option Addr} {n c l h sz : Nat} {xs : List Value} (h1 : l ≤ h) (h2 : h ≤ n) (h3 : n ≤ c) (hr : Rd w0 L A n sz xs) : Rd w0 L (if c = l then A else A.map (·.add (l * sz))) (h - l) sz ((xs.drop (l * sz)).take ((h - l) * sz)) := by
  intro w hs
  have r := hr w hs
  have e1 : h * sz ≤ n * sz := Nat.mul_le_mul_right _ h2
  have e2 : (h - l) * sz + l * sz = h * sz := by rw [← Nat.add_mul, Nat.sub_add_cancel h1]
  have hlen : ((xs.drop (l * sz)).take ((h - l) * sz)).length = (h - l) * sz := by
    rw [List.length_take, List.length_drop, r.len]; omega
  refine ⟨hlen, ?_, ?_⟩
  · intro e
    have : A = none := by
      split at e
      · exact e
      · cases A with
        | none => rfl
        | some a => cases e
    have := r.nil this
    omega
  · intro a e j u hu
    have hj : j < (h - l) * sz := by have := (List.getElem?_eq_some_iff.1 hu).1; omega
    have hne : ¬ c = l := by
      intro e
      have : h - l = 0 := by omega
      rw [this, Nat.zero_mul] at hj
      omega
    rw [if_neg hne] at e
    cases A with
    | none => cases e
    | some b =>
      cases e
      rw [List.getElem?_take, if_pos hj, List.getElem?_drop] at hu
      obtain ⟨g1, g2⟩ := r.cell b rfl _ _ hu
      show (b.add (l * sz)).spot = none ∧ w.cell? ⟨(b.add (l * sz)).block, (b.add (l * sz)).off + j, none⟩ = some u
      rw [addr_add b g1]
      exact ⟨rfl, by simpa [Nat.add_assoc] using g2⟩

theorem SlV.win {α : Type} {f : IsV α} {sz : Nat} {w0 : World} {L : List HP} {A : Option Addr} {n c : Nat} {xs : List α} (l h : Nat) (h1 : l ≤ h) (h2 : h ≤ xs.length) (h3 : xs.length ≤ c) (hn : ((xs.drop l).take (h - l)).length = n)
    (H : SlV f sz (Rd w0 L) [.slice A xs.length c] xs) : SlV f sz (Rd w0 L) [.slice (if c = l then A else A.map (·.add (l * sz))) n (c - l)] ((xs.drop l).take (h - l)) := by
  obtain ⟨A', c', vs, e, hr, hl, hx⟩ := H
  simp only [List.cons.injEq, Value.slice.injEq, and_true, true_and] at e
  obtain ⟨rfl, rfl⟩ := e
  have hn' : n = h - l := by rw [← hn]; simp; omega
  have e1 : h * sz ≤ xs.length * sz := Nat.mul_le_mul_right _ h2
  have e2 : (h - l) * sz + l * sz = h * sz := by rw [← Nat.add_mul, Nat.sub_add_cancel h1]
  refine ⟨_, _, (vs.drop (l * sz)).take ((h - l) * sz), by rw [hn], ?_, ?_, ?_⟩
  · rw [hn, hn']; exact rd_win h1 h2 h3 hr
  · rw [hn, hn', List.length_take, List.length_drop, hl]; omega
  · intro i x hi
    have hil : i < h - l := by have := (List.getElem?_eq_some_iff.1 hi).1; omega
    have h5 : xs[l + i]? = some x := by
      rw [List.getElem?_take, if_pos hil, List.getElem?_drop] at hi; exact hi
    have h6 := hx _ _ h5
    have e3 : (i + 1) * sz ≤ (h - l) * sz := Nat.mul_le_mul_right _ hil
    rw [Nat.add_mul, Nat.one_mul] at e3
    rw [show ((((vs.drop (l * sz)).take ((h - l) * sz)).drop (i * sz)).take sz) = (vs.drop ((l + i) * sz)).take sz from ?_]
    · exact h6
    · rw [List.drop_take, List.take_take, List.drop_drop, Nat.add_mul]
      rw [show min sz ((h - l) * sz - i * sz) = sz from by omega]

theorem SlV.take {α : Type} {f : IsV α} {sz : Nat} {w0 : World} {L : List HP} {A : Option Addr} {n c : Nat} {xs : List α} (k : Nat) (h2 : k ≤ xs.length) (h3 : xs.length ≤ c) (hn : (xs.take k).length = n)
    (H : SlV f sz (Rd w0 L) [.slice A xs.length c] xs) : SlV f sz (Rd w0 L) [.slice (if c = 0 then A else A.map (·.add (0 * sz))) n c] (xs.take k) := by
  have := SlV.win (n := n) 0 k (Nat.zero_le _) h2 h3 (by simpa using hn) H
  simpa using this

theorem SlV.drop {α : Type} {f : IsV α} {sz : Nat} {w0 : World} {L : List HP} {A : Option Addr} {n c : Nat} {xs : List α} (l : Nat) (h2 : l ≤ xs.length) (h3 : xs.length ≤ c) (hn : (xs.drop l).length = n)
    (H : SlV f sz (Rd w0 L) [.slice A xs.length c] xs) : SlV f sz (Rd w0 L) [.slice (if c = l then A else A.map (·.add (l * sz))) n (c - l)] (xs.drop l) := by
  have e : (xs.drop l).take (xs.length - l) = xs.drop l := List.take_of_length_le (by simp)
  have := SlV.win (n := n) l xs.length h2 (Nat.le_refl _) h3 (by rw [e]; exact hn) H
  rwa [e] at this

section
variable {P : Program} {K : Act → World → Prop} {Q : Exit → Act → World → Prop} {a : Act} {w0 w : World} {L M : List HP}
variable {dst : Option Tmp} {ty : TypeId} {pos : String} {aft : Array Edge} {gd : Option (Nat × Bool)}
theorem yl_sliceLo {T E : TypeId} {z : Value} {sz by_ : Nat} {x lo : Operand} {A : Option Addr} {n c : Nat} {li : Int} {v : Value} [hT : SlT P T E] [hi : Inf P E z sz by_] (l : Nat) (hx : a.eval x = .slice A n c) (hl' : a.eval lo = .int .i64 li) (hli : li = (l : Int)) (h1 : l ≤ n)
    (hv : Value.slice (if c = l then A else A.map (·.add (l * sz))) (n - l) (c - l) = v) : (execOp a.eval ⟨dst, .slice T x (some lo) none none, ty, pos, aft, gd⟩).run P w = .ok (.value v) w := by
  have hl : a.eval lo = .int .i64 l := by rw [hl', hli]
  obtain ⟨i, g1, g2, g3, g4, g5⟩ := hi.h
  subst hv
  have e1 : (0 : Int) ≤ (l : Int) ∧ (l : Int) ≤ (n : Int) := by omega
  simp [execOp, hx, hl, Instr.sliceAt, Instr.slice, Instr.sliceBounds, Instr.sliceBound, asIntOf, run_underlying hT.h, Go.sizeOf, typeInfo, g1, g3, e1]
  intro h; omega

theorem yl_sliceHi {T E : TypeId} {z : Value} {sz by_ : Nat} {x hi' : Operand} {A : Option Addr} {n c : Nat} {ki : Int} {v : Value} [hT : SlT P T E] [hi : Inf P E z sz by_] (k : Nat) (hx : a.eval x = .slice A n c) (hl' : a.eval hi' = .int .i64 ki) (hki : ki = (k : Int)) (h1 : k ≤ n) (h2 : n ≤ c)
    (hv : Value.slice (if c = 0 then A else A.map (·.add (0 * sz))) k c = v) : (execOp a.eval ⟨dst, .slice T x none (some hi') none, ty, pos, aft, gd⟩).run P w = .ok (.value v) w := by
  have hl : a.eval hi' = .int .i64 k := by rw [hl', hki]
  obtain ⟨i, g1, g2, g3, g4, g5⟩ := hi.h
  subst hv
  have e1 : (0 : Int) ≤ (k : Int) ∧ (k : Int) ≤ (c : Int) := by omega
  simp [execOp, hx, hl, Instr.sliceAt, Instr.slice, Instr.sliceBounds, Instr.sliceBound, asIntOf, run_underlying hT.h, Go.sizeOf, typeInfo, g1, e1]
  intro h; omega
end
end Sl
