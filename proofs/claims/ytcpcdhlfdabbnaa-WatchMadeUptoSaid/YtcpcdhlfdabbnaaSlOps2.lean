/-
  More rules of the separation logic: bytes and strings, append of zeros. No Go program in it.
-/
import Derived.Test.YtcpcdhlfdabbnaaSlOps
namespace Sl
open Go Go.RowKit

def b8 (c : UInt8) : Value := .int .u8 (c.toNat : Int)
def B8 (l : List UInt8) : List Value := l.map b8
theorem B8_length (l : List UInt8) : (B8 l).length = l.length := by simp [B8]
theorem b8_ofNat (n : Nat) : b8 (UInt8.ofNat n) = .int .u8 ((n : Int) % 256) := by simp [b8]
theorem B8_one (l : List UInt8) : ∀ u ∈ B8 l, u.oneCell' = true := by intro u hu; simp [B8] at hu; obtain ⟨c, _, rfl⟩ := hu; rfl
theorem B8_app (l m : List UInt8) : B8 (l ++ m) = B8 l ++ B8 m := by simp [B8]
theorem B8_nil : B8 [] = [] := rfl
theorem B8_cons (c : UInt8) (l : List UInt8) : B8 (c :: l) = b8 c :: B8 l := rfl
theorem B8_take (l : List UInt8) (k : Nat) : B8 (l.take k) = (B8 l).take k := by simp [B8]
theorem B8_drop (l : List UInt8) (k : Nat) : B8 (l.drop k) = (B8 l).drop k := by simp [B8]

section
variable {P : Program} {ops : Array Oper} {Q : Exit → Act → World → Prop} {rest : List Oper} {a : Act} {w0 w : World} {L : List HP}
variable {dst : Option Tmp} {ty : TypeId} {pos : String} {aft : Array Edge}

/-- A guarded operation whose guard says yes goes as any. -/
theorem wl_unguard {op : Op} {g : Nat × Bool} (hw : Region.wanted ⟨dst, op, ty, pos, aft, some g⟩ (yielded ops a.tmps) = true) (h : wpList P ops Q (⟨dst, op, ty, pos, aft, none⟩ :: rest) a w) :
    wpList P ops Q (⟨dst, op, ty, pos, aft, some g⟩ :: rest) a w := by
  unfold wpList at h ⊢
  rw [if_pos (by rfl)] at h
  rw [if_pos hw]
  exact h

/-- string(b) -/
theorem conv_b2s {S D E : TypeId} [hS : SlT P S E] [hE : U8T P E] [hD : StrT P D] {A : Option Addr} {n c : Nat} {l : List UInt8} (h : Rd w0 L A n 1 (B8 l)) (hs : Sat w0 w L) :
    (convert S D (.slice A n c)).run P w = .ok (.string ⟨l.toArray⟩) w := by
  have hr := h w hs
  have hn : n = l.length := by have := hr.len; simp [B8_length] at this; omega
  subst hn
  cases A with
  | none =>
    have h0 := hr.nil rfl
    have : l = [] := List.eq_nil_of_length_eq_zero h0
    subst this
    simp [convert, run_underlying hS.h, run_underlying hD.h, run_underlying hE.h, Conv.bytesToString]
    rfl
  | some ad =>
    refine run_convert_bytes_back w S D E ad c l hS.h hE.h hD.h fun j hj => ?_
    refine hr.add j _ ?_
    simp [B8, b8, hj]

theorem wl_b2s {S D E : TypeId} [hS : SlT P S E] [hE : U8T P E] [hD : StrT P D] {x : Operand} {A : Option Addr} {n c : Nat} {xs : List Value} {l : List UInt8} (hs : Sat w0 w L) (hx : a.eval x = .slice A n c) (hr : Rd w0 L A n 1 xs) (hl : xs = B8 l)
    (h : wpList P ops Q rest (a.put dst (.string ⟨l.toArray⟩)) w) : wpList P ops Q (⟨dst, .convert S D x, ty, pos, aft, none⟩ :: rest) a w := by
  subst hl
  refine wl_do rfl (v := .string ⟨l.toArray⟩) (w' := w) ?_ h
  simp [execOp, hx, conv_b2s hr hs]

theorem zeroCells_one (z : Value) (k : Nat) : (Builtin.zeroCells #[z] k).toList = List.replicate k z := by
  apply List.ext_getElem
  · simp [size_zeroCells]
  · intro j h1 h2
    simp [Builtin.zeroCells, Nat.mod_one]

/-- append(nil, make([]T, k)...) -/
theorem wl_appendZeros {T N E : TypeId} {by_ k : Nat} {z : Value} {s x : Operand} {kd : IntKind} [hT : SlT P T E] [hi : Inf P E z 1 by_] (hs : Sat w0 w L) (hv : a.eval s = .slice none 0 0) (hx : a.eval x = .int .i64 k)
    (hN : P.underlying N = some (.int kd)) (hz : z.cells = #[z]) (hk : 0 < k) (hm : k ≤ 4611686018427387904) (hby : k * by_ ≤ 140737488355328)
    (h : ∀ A' c' w1, Sat w0 w1 (own E 1 A' c' k (List.replicate k z) :: L) → wpList P ops Q rest (a.put dst (.slice A' k c')) w1) :
    wpList P ops Q (⟨dst, .call { callee := .builtin .append, args := #[s, x], argTypes := #[T, N] }, ty, pos, aft, none⟩ :: rest) a w := by
  obtain ⟨i, g1, g2, g3, rfl, g5⟩ := hi.h
  have hw : IntKind.i64.wrap (k : Int) = k := by simp [IntKind.wrap, IntKind.bits, IntKind.signed]; omega
  have h1 : ¬ ((k : Int) < 0) := by omega
  have h2 : ¬ ((k : Int) * (i.bytes : Int) > 281474976710656) := by
    have : ((k * i.bytes : Nat) : Int) ≤ 140737488355328 := by omega
    simp at this; omega
  have h3 : ¬ (k = 0) := by omega
  have h4 : ¬ ((k : Int) > 9223372036854775807) := by omega
  have h5 : ¬ (Builtin.nextslicecap k 0 * i.bytes > 281474976710656) := by rw [nextslicecap_zero hk]; omega
  have hcap := grownCap_ge w k 0 E
  have hcm : grownCap w k 0 E ≤ maxLen := grownCap_le_maxLen w k 0 E (by simp only [maxLen]; omega)
  let cells := Builtin.zeroCells #[z] k ++ Builtin.zeroCells #[z] (grownCap w k 0 E - k)
  have hrun : (Builtin.append_ #[T, N] ty #[.slice none 0 0, .int .i64 k]).run P w = .ok (.slice (some ⟨w.heap.size, 0, none⟩) k (grownCap w k 0 E)) (w.drew.alloc (.cells cells E)) := by
    simp [Builtin.append_, run_underlying hT.h, run_underlying hN, Go.sizeOf, typeInfo, zeroValue, g1, g2, g3, hz, asInt, asIntOf, hw, h1, h2, h3, h4, h5, Question.forced, Builtin.firstCells, newRow, grownCap, cells]
  refine wl_do rfl ?_ (h (some ⟨w.heap.size, 0, none⟩) (grownCap w k 0 E) _ (Sat.own_mk (hs.drew.alloc (.cells cells E)) ?_ hcap hcm ?_ ?_))
  · simp only [execOp, resolve, invoke, builtin, Sem.run_bind, Sem.run_pure, Result.andThen_ok, List.map_toArray, List.map_cons, List.map_nil, hv, hx, hrun]
  · simp
  · simp only [cells, Array.size_append, size_zeroCells, List.size_toArray, List.length_cons, List.length_nil, ← Nat.add_mul]; congr 1; omega
  · simp only [cells, Array.toList_append, zeroCells_one, Nat.mul_one]
    rw [List.take_append_of_le_length (by simp), List.take_of_length_le (by simp)]

/-- A' is the window of A from l to h. -/
def Win (A A' : Option Addr) (n l h : Nat) : Prop := ∀ (w0 : World) (L : List HP) (xs : List Value), Rd w0 L A n 1 xs → Rd w0 L A' (h - l) 1 ((xs.drop l).take (h - l))

theorem win_of (A : Option Addr) (n c l h : Nat) (h1 : l ≤ h) (h2 : h ≤ n) (h3 : n ≤ c) : Win A (if c = l then A else A.map (·.add l)) n l h := by
  intro w0 L xs hr w hs
  have r := hr w hs
  have hlen : ((xs.drop l).take (h - l)).length = (h - l) * 1 := by have := r.len; simp; omega
  refine ⟨hlen, ?_, ?_⟩
  · intro e
    have : A = none := by
      split at e
      · exact e
      · cases A with
        | none => rfl
        | some a => cases e
    have := r.nil this
    omega
  · intro a e j u hu
    have hj : j < h - l := by have := (List.getElem?_eq_some_iff.1 hu).1; omega
    have hne : ¬ c = l := by omega
    rw [if_neg hne] at e
    cases A with
    | none => cases e
    | some b =>
      cases e
      rw [List.getElem?_take, if_pos hj, List.getElem?_drop] at hu
      obtain ⟨g1, g2⟩ := r.cell b rfl _ _ hu
      show (b.add l).spot = none ∧ w.cell? ⟨(b.add l).block, (b.add l).off + j, none⟩ = some u
      rw [addr_add b g1]
      exact ⟨rfl, by simpa [Nat.add_assoc] using g2⟩

theorem wl_sliceLo {T E : TypeId} {z : Value} {by_ : Nat} {x lo : Operand} {A : Option Addr} {n c : Nat} {li : Int} [hT : SlT P T E] [hi : Inf P E z 1 by_] (l : Nat) (hx : a.eval x = .slice A n c) (hl' : a.eval lo = .int .i64 li) (hli : li = (l : Int)) (h1 : l ≤ n) (h2 : n ≤ c)
    (h : ∀ A', Win A A' n l n → wpList P ops Q rest (a.put dst (.slice A' (n - l) (c - l))) w) : wpList P ops Q (⟨dst, .slice T x (some lo) none none, ty, pos, aft, none⟩ :: rest) a w := by
  have hl : a.eval lo = .int .i64 l := by rw [hl', hli]
  obtain ⟨i, g1, g2, g3, g4, g5⟩ := hi.h
  refine wl_do rfl ?_ (h _ (win_of A n c l n h1 (Nat.le_refl _) h2))
  have e1 : (0 : Int) ≤ (l : Int) ∧ (l : Int) ≤ (n : Int) := by omega
  simp [execOp, hx, hl, Instr.sliceAt, Instr.slice, Instr.sliceBounds, Instr.sliceBound, asIntOf, run_underlying hT.h, Go.sizeOf, typeInfo, g1, g3, e1]
  intro h; omega

theorem wl_sliceHi {T E : TypeId} {z : Value} {by_ : Nat} {x hi' : Operand} {A : Option Addr} {n c : Nat} {ki : Int} [hT : SlT P T E] [hi : Inf P E z 1 by_] (k : Nat) (hx : a.eval x = .slice A n c) (hl' : a.eval hi' = .int .i64 ki) (hki : ki = (k : Int)) (h1 : k ≤ n) (h2 : n ≤ c)
    (h : ∀ A', Win A A' n 0 k → wpList P ops Q rest (a.put dst (.slice A' k c)) w) : wpList P ops Q (⟨dst, .slice T x none (some hi') none, ty, pos, aft, none⟩ :: rest) a w := by
  have hl : a.eval hi' = .int .i64 k := by rw [hl', hki]
  obtain ⟨i, g1, g2, g3, g4, g5⟩ := hi.h
  refine wl_do rfl ?_ (h _ (win_of A n c 0 k (Nat.zero_le _) h1 h2))
  have e1 : (0 : Int) ≤ (k : Int) ∧ (k : Int) ≤ (c : Int) := by omega
  simp [execOp, hx, hl, Instr.sliceAt, Instr.slice, Instr.sliceBounds, Instr.sliceBound, asIntOf, run_underlying hT.h, Go.sizeOf, typeInfo, g1, e1]
  intro h; omega

theorem wl_sliceLH {T E : TypeId} {z : Value} {by_ : Nat} {x lo hi' : Operand} {A : Option Addr} {n c : Nat} {li ki : Int} [hT : SlT P T E] [hi : Inf P E z 1 by_] (l k : Nat) (hx : a.eval x = .slice A n c) (hl' : a.eval lo = .int .i64 li) (hh' : a.eval hi' = .int .i64 ki) (hli : li = (l : Int)) (hki : ki = (k : Int)) (h0 : l ≤ k) (h1 : k ≤ n) (h2 : n ≤ c)
    (h : ∀ A', Win A A' n l k → wpList P ops Q rest (a.put dst (.slice A' (k - l) (c - l))) w) : wpList P ops Q (⟨dst, .slice T x (some lo) (some hi') none, ty, pos, aft, none⟩ :: rest) a w := by
  have hl : a.eval lo = .int .i64 l := by rw [hl', hli]
  have hh : a.eval hi' = .int .i64 k := by rw [hh', hki]
  obtain ⟨i, g1, g2, g3, g4, g5⟩ := hi.h
  refine wl_do rfl ?_ (h _ (win_of A n c l k h0 h1 h2))
  have e1 : (0 : Int) ≤ (k : Int) ∧ (k : Int) ≤ (c : Int) := by omega
  have e2 : (0 : Int) ≤ (l : Int) ∧ (l : Int) ≤ (k : Int) := by omega
  simp [execOp, hx, hl, hh, Instr.sliceAt, Instr.slice, Instr.sliceBounds, Instr.sliceBound, asIntOf, run_underlying hT.h, Go.sizeOf, typeInfo, g1, g3, e1, e2]
  rw [if_pos (by omega), if_pos (by omega)]
#print axioms wl_appendZeros
end
end Sl
