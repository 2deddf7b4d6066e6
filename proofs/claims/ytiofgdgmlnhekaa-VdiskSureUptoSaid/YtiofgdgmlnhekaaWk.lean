/-
  The rules of SlOps and SlOps2 at a step of a region that draws its order: the same texts, turned by a program.
-/
import Derived.Test.YtiofgdgmlnhekaaSl
import Derived.Deep.RegionHeld3
import Derived.KernelRfl
import Derived.Maps.RangeRun
import Derived.Maps.Keyed
namespace Sl
open Go Go.RowKit

section
variable {P : Program} {K : Act → World → Prop} {Q : Exit → Act → World → Prop} {a : Act} {w0 w : World} {L M : List HP}
variable {dst : Option Tmp} {ty : TypeId} {pos : String} {aft : Array Edge} {gd : Option (Nat × Bool)}

theorem st_do {o : Oper} (_ : o = o) {v : Value} {w' : World} (hr : (execOp a.eval o).run P w = .ok (.value v) w') (h : K (a.put o.dst v) w') : Oper.wp P o a w K Q := by
  unfold Oper.wp; rw [hr]; exact h

theorem st_do_skip {o : Oper} (_ : o = o) {w' : World} (hr : (execOp a.eval o).run P w = .ok .skip w') (h : K (a.put o.dst undef) w') : Oper.wp P o a w K Q := by
  unfold Oper.wp; rw [hr]; exact h

theorem st_box {E : TypeId} {x : Operand} {v : Value} (hs : Sat w0 w L) (hv : a.eval x = v)
    (h : ∀ b w1, Sat w0 w1 (blk b (.cells v.cells E) :: L) → K (a.put dst (.pointer (some ⟨b, 0, none⟩))) w1) :
    Oper.wp P (⟨dst, .box E x, ty, pos, aft, gd⟩) a w K Q := by
  refine st_do rfl (v := .pointer (some ⟨w.heap.size, 0, none⟩)) (w' := w.alloc (.cells v.cells E)) ?_ (h _ _ (hs.alloc _))
  simp [execOp, Instr.box, newVar, newRow, hv]

theorem st_alloc {E : TypeId} {z : Value} {sz by_ : Nat} [hi : Inf P E z sz by_] (hs : Sat w0 w L)
    (h : ∀ b w1, Sat w0 w1 (blk b (.cells z.cells E) :: L) → K (a.put dst (.pointer (some ⟨b, 0, none⟩))) w1) :
    Oper.wp P (⟨dst, .alloc E, ty, pos, aft, gd⟩) a w K Q := by
  obtain ⟨i, h1, h2, h3, h4, h5⟩ := hi.h
  refine st_do rfl (v := .pointer (some ⟨w.heap.size, 0, none⟩)) (w' := w.alloc (.cells z.cells E)) ?_ (h _ _ (hs.alloc _))
  simp [execOp, Instr.alloc, newVar, newRow, zeroValue, typeInfo, h1, h2]

/-- A load of one cell. -/
theorem st_load {T : TypeId} {x : Operand} {ad : Addr} {v : Value} [hT : Scal P T] (hs : Sat w0 w L) (hx : a.eval x = .pointer (some ad)) (hc : Cl w0 L ad v)
    (h : K (a.put dst v) w) : Oper.wp P (⟨dst, .load T x, ty, pos, aft, gd⟩) a w K Q := by
  obtain ⟨d, h1, h2⟩ := hT.h
  refine st_do rfl (v := v) (w' := w) ?_ h
  have hagg : (isAgg T).run P w = .ok false w := by
    unfold isAgg
    rw [Sem.run_bind, run_underlying h1 w]
    cases d <;> simp_all
  simp [execOp, hx, Instr.loadAt, Instr.sureAddr, loadVar, hagg, load, Sem.run, hc w hs]

/-- A load of a struct or an array. -/
theorem st_loadAgg {T : TypeId} {x : Operand} {b off n : Nat} {cur : Array Value} {E : TypeId} {fr : Nat × Nat} {L' : List HP} {cs : List Value} [hT : AggT P T n] (hs : Sat w0 w L) (hx : a.eval x = .pointer (some ⟨b, off, none⟩))
    (ho : Out (blk b (.cells cur E fr)) L L') (hn : off + n ≤ cur.size) (hcs : (cur.toList.drop off).take n = cs)
    (h : K (a.put dst (.agg cs.toArray)) w) : Oper.wp P (⟨dst, .load T x, ty, pos, aft, gd⟩) a w K Q := by
  obtain ⟨⟨d, h1, h2⟩, h3⟩ := hT.h
  subst hcs
  have hg := hs.get ho
  have hlen : ((cur.toList.drop off).take n).length = n := by simp; omega
  refine st_do rfl (v := .agg ((cur.toList.drop off).take n).toArray) (w' := w) ?_ h
  have hl := run_loadAt_mid (P := P) w b off T ((cur.toList.drop off).take n) d (fun j v hv => by
    rw [List.getElem?_take] at hv
    split at hv
    · rw [List.getElem?_drop] at hv
      simpa [World.cell?, hg] using hv
    · cases hv) h1 h2 (by rw [h3, hlen])
  simp only [execOp, hx, Sem.run_bind, hl, Result.andThen_ok, Sem.run_pure]

/-- A store into a block. -/
theorem st_store {T : TypeId} {x y : Operand} {b off n : Nat} {cur : Array Value} {E : TypeId} {v z : Value} {by_ : Nat} {L' : List HP} [hi : Inf P T z n by_] (hs : Sat w0 w L) (hx : a.eval x = .pointer (some ⟨b, off, none⟩)) (hy : a.eval y = v)
    (ho : Out (blk b (.cells cur E (0, 0))) L L') (hn : v.cells.size = n) (h1 : ∀ u ∈ v.cells.toList, u.oneCell' = true) (hfit : off + n ≤ cur.size)
    (h : ∀ w1, Sat w0 w1 (blk b (.cells (upd cur off v.cells.toList) E (0, 0)) :: L') → K (a.put dst undef) w1) : Oper.wp P (⟨dst, .store T x y, ty, pos, aft, gd⟩) a w K Q := by
  have hg := hs.get ho
  refine st_do_skip rfl ?_ (h _ ((hs.out ho).setRow (.here _)))
  simp only [execOp, hx, hy, Sem.run_bind, run_store_row (P := P) (T := T) hg hn h1 hfit, Result.andThen_ok, Sem.run_pure]

/-- A store of one cell. -/
theorem st_store1 {T : TypeId} {x y : Operand} {b off : Nat} {cur : Array Value} {E : TypeId} {v z : Value} {by_ : Nat} {L' : List HP} [hi : Inf P T z 1 by_] (hs : Sat w0 w L) (hx : a.eval x = .pointer (some ⟨b, off, none⟩)) (hy : a.eval y = v)
    (ho : Out (blk b (.cells cur E (0, 0))) L L') (hn : v.cells = #[v]) (h1 : v.oneCell' = true) (hfit : off < cur.size)
    (h : ∀ w1, Sat w0 w1 (blk b (.cells (cur.setIfInBounds off v) E (0, 0)) :: L') → K (a.put dst undef) w1) : Oper.wp P (⟨dst, .store T x y, ty, pos, aft, gd⟩) a w K Q := by
  have e : upd cur off v.cells.toList = cur.setIfInBounds off v := by
    rw [hn]; apply Array.ext'; simp [upd, List.set_eq_take_append_cons_drop]; intro h; omega
  exact st_store hs hx hy ho (by rw [hn]; rfl) (by rw [hn]; simpa using h1) hfit (by rw [e]; exact h)

/-- A store into an element of a slice of one's own. -/
theorem st_store_own {T : TypeId} {x y : Operand} {b i c n : Nat} {xs : List Value} {E : TypeId} {v z : Value} {by_ : Nat} {L' : List HP} [hi : Inf P T z 1 by_] (hs : Sat w0 w L) (hx : a.eval x = .pointer (some ⟨b, i, none⟩)) (hy : a.eval y = v)
    (ho : Out (own E 1 (some ⟨b, 0, none⟩) c n xs) L L') (hn : v.cells = #[v]) (h1 : v.oneCell' = true) (hlt : i < n)
    (h : ∀ w1, Sat w0 w1 (own E 1 (some ⟨b, 0, none⟩) c n (xs.set i v) :: L') → K (a.put dst undef) w1) : Oper.wp P (⟨dst, .store T x y, ty, pos, aft, gd⟩) a w K Q := by
  obtain ⟨hl, hc⟩ := (hs.out ho).own_inv
  rcases hc with ⟨e, _⟩ | ⟨g, cur, e, hb, h3, h4, h5, h6⟩
  · cases e
  · cases e
    refine st_store1 hb hx hy (.here _) hn h1 (by omega) fun w1 hw => h w1 ?_
    refine Sat.own_mk hw (by simpa using hl) h3 h4 (by simpa using h5) ?_
    simp only [Nat.mul_one] at h6 ⊢
    rw [← h6]
    simp [List.take_set]

/-- 'T{v0, v1, ..}', a slice all of whose elements are given, each of one cell. -/
theorem st_buildSlice {T E : TypeId} {n : Nat} {parts : Array (Nat × Operand)} {vs : List Value} {z : Value} {by_ : Nat} [hT : SlT P T E] [hi : Inf P E z 1 by_] (hs : Sat w0 w L)
    (hp : parts.toList.map (fun x => x.1) = List.range n) (hvs : parts.toList.map (fun x => a.eval x.2) = vs) (h1 : ∀ v ∈ vs, v.cells = #[v]) (hb : n ≤ 65536)
    (h' : ∀ b w1, Sat w0 w1 (own E 1 (some ⟨b, 0, none⟩) n n vs :: L) → K (a.put dst (.slice (some ⟨b, 0, none⟩) n n)) w1) :
    Oper.wp P (⟨dst, .buildSlice T n parts, ty, pos, aft, gd⟩) a w K Q := by
  have hn0 : vs.length = n := by rw [← hvs]; have := congrArg List.length hp; simpa using this
  have h : ∀ b w1, Sat w0 w1 (blk b (.cells vs.toArray E (0, 0)) :: L) → K (a.put dst (.slice (some ⟨b, 0, none⟩) n n)) w1 := fun b w1 hw =>
    h' b w1 (Sat.own_mk hw (by omega) (Nat.le_refl _) (by simp only [maxLen]; omega) (by simp; omega) (by rw [Nat.mul_one, ← hn0]; simp))
  have hn : vs.length = n := by rw [← hvs]; have := congrArg List.length hp; simpa using this
  have hv : (parts.map fun x => (x.1, a.eval x.2)).toList = vs.zipIdx.map fun x => (x.2, x.1) := by
    rw [← hvs]
    apply List.ext_getElem?
    intro k
    have hk := congrArg (fun l => l[k]?) hp
    simp only [List.getElem?_map, List.getElem?_zipIdx, Array.toList_map] at hk ⊢
    cases hq : parts.toList[k]? with
    | none => simp
    | some x =>
      have hkn : k < n := by
        have := (List.getElem?_eq_some_iff.1 hq).1
        have e := congrArg List.length hp
        simp at e this; omega
      rw [hq] at hk
      simp [List.getElem?_range hkn] at hk
      simp [hk]
  obtain ⟨i, g1, g2, g3, g4, g5⟩ := hi.h
  subst hn
  have hlen : ∀ k, ((Array.range k).map fun j => z.cells[j % z.cells.size]!).size = k := fun k => by simp
  have hf := fill_ones (place := fun j => some (j * 1, 1)) (fun i => by simp) vs 0 ((Array.range vs.length).map fun j => z.cells[j % z.cells.size]!) h1 (by simp)
  have e0 : ((#[] : Array Value)).size = 0 := rfl
  refine st_do rfl (v := .slice (some ⟨w.heap.size, 0, none⟩) vs.length vs.length) (w' := w.alloc (.cells vs.toArray E)) ?_ (h _ _ (hs.alloc _))
  have hz : ¬ (16777216 < vs.length) := by omega
  have hv' : List.map (fun x => (x.1, a.eval x.2)) parts.toList = vs.zipIdx.map fun x => (x.2, x.1) := by rw [← hv]; simp
  simp only [List.take_zero, List.nil_append, Nat.zero_add] at hf
  rw [List.drop_eq_nil_of_le (by simp)] at hf
  simp only [List.append_nil, Nat.mul_one] at hf
  by_cases h0 : vs = []
  · subst h0
    simp [execOp, Instr.buildSlice, run_underlying hT.h, Go.sizeOf, typeInfo, g1, newRow, hv', Instr.fill, show Array.range 0 = #[] from rfl]
  · have h0' : ¬ vs.length = 0 := by simpa using h0
    simp [execOp, Instr.buildSlice, run_underlying hT.h, Go.sizeOf, typeInfo, zeroValue, newRow, g1, g2, g3, h0, hz, hv', hf]

/-- append(s, x...) on a slice of one's own. -/
theorem st_append {T E : TypeId} {sz by_ : Nat} {z : Value} [hT : SlT P T E] [hi : Inf P E z sz by_] {s x : Operand} {A : Option Addr} {c n : Nat} {xs : List Value} {B : Option Addr} {m d : Nat} {news : List Value}
    (hs : Sat w0 w L) (hv : a.eval s = .slice A n c) (hx : a.eval x = .slice B m d)
    (ho : Out (own E sz A c n xs) L M) (hr : Rd w0 L B m sz news) (h1 : ∀ u ∈ news, u.oneCell' = true) (hm : n + m ≤ maxLen) (hby : (n + m) * by_ ≤ 140737488355328)
    (h : ∀ A' c' w1, Sat w0 w1 (own E sz A' c' (n + m) (xs ++ news) :: M) → n + m ≤ c' → K (a.put dst (.slice A' (n + m) c')) w1) :
    Oper.wp P (⟨dst, .call { callee := .builtin .append, args := #[s, x], argTypes := #[T, T] }, ty, pos, aft, gd⟩) a w K Q := by
  obtain ⟨A', c', w', hrun, hsat, _⟩ := sem_append (P := P) (T := T) (t' := ty) (d := d) (hs.out ho) (fun w hw => hr w (hw.into ho)) h1 hm hby
  refine st_do rfl ?_ (h _ _ _ hsat hsat.own_cap)
  simp only [execOp, resolve, invoke, builtin, Sem.run_bind, Sem.run_pure, Result.andThen_ok, List.map_toArray, List.map_cons, List.map_nil, hv, hx, hrun]

theorem st_b2s {S D E : TypeId} [hS : SlT P S E] [hE : U8T P E] [hD : StrT P D] {x : Operand} {A : Option Addr} {n c : Nat} {xs : List Value} {l : List UInt8} (hs : Sat w0 w L) (hx : a.eval x = .slice A n c) (hr : Rd w0 L A n 1 xs) (hl : xs = B8 l)
    (h : K (a.put dst (.string ⟨l.toArray⟩)) w) : Oper.wp P (⟨dst, .convert S D x, ty, pos, aft, gd⟩) a w K Q := by
  subst hl
  refine st_do rfl (v := .string ⟨l.toArray⟩) (w' := w) ?_ h
  simp [execOp, hx, conv_b2s hr hs]

/-- append(nil, make([]T, k)...) -/
theorem st_appendZeros {T N E : TypeId} {by_ k : Nat} {z : Value} {s x : Operand} {kd : IntKind} [hT : SlT P T E] [hi : Inf P E z 1 by_] (hs : Sat w0 w L) (hv : a.eval s = .slice none 0 0) (hx : a.eval x = .int .i64 k)
    (hN : P.underlying N = some (.int kd)) (hz : z.cells = #[z]) (hk : 0 < k) (hm : k ≤ 4611686018427387904) (hby : k * by_ ≤ 140737488355328)
    (h : ∀ A' c' w1, Sat w0 w1 (own E 1 A' c' k (List.replicate k z) :: L) → K (a.put dst (.slice A' k c')) w1) :
    Oper.wp P (⟨dst, .call { callee := .builtin .append, args := #[s, x], argTypes := #[T, N] }, ty, pos, aft, gd⟩) a w K Q := by
  obtain ⟨i, g1, g2, g3, rfl, g5⟩ := hi.h
  have hw : IntKind.i64.wrap (k : Int) = k := by simp [IntKind.wrap, IntKind.bits, IntKind.signed]; omega
  have h1 : ¬ ((k : Int) < 0) := by omega
  have h2 : ¬ ((k : Int) * (i.bytes : Int) > 281474976710656) := by
    have : ((k * i.bytes : Nat) : Int) ≤ 140737488355328 := by omega
    simp at this; omega
  have h3 : ¬ (k = 0) := by omega
  have h4 : ¬ ((k : Int) > 9223372036854775807) := by omega
  have h5 : ¬ (Builtin.nextslicecap k 0 * i.bytes > 281474976710656) := by rw [nextslicecap_zero hk]; omega
  have hcap := grownCap_ge w k 0 E
  have hcm : grownCap w k 0 E ≤ maxLen := grownCap_le_maxLen w k 0 E (by simp only [maxLen]; omega)
  let cells := Builtin.zeroCells #[z] k ++ Builtin.zeroCells #[z] (grownCap w k 0 E - k)
  have hrun : (Builtin.append_ #[T, N] ty #[.slice none 0 0, .int .i64 k]).run P w = .ok (.slice (some ⟨w.heap.size, 0, none⟩) k (grownCap w k 0 E)) (w.drew.alloc (.cells cells E)) := by
    simp [Builtin.append_, run_underlying hT.h, run_underlying hN, Go.sizeOf, typeInfo, zeroValue, g1, g2, g3, hz, asInt, asIntOf, hw, h1, h2, h3, h4, h5, Question.forced, Builtin.firstCells, newRow, grownCap, cells]
  refine st_do rfl ?_ (h (some ⟨w.heap.size, 0, none⟩) (grownCap w k 0 E) _ (Sat.own_mk (hs.drew.alloc (.cells cells E)) ?_ hcap hcm ?_ ?_))
  · simp only [execOp, resolve, invoke, builtin, Sem.run_bind, Sem.run_pure, Result.andThen_ok, List.map_toArray, List.map_cons, List.map_nil, hv, hx, hrun]
  · simp
  · simp only [cells, Array.size_append, size_zeroCells, List.size_toArray, List.length_cons, List.length_nil, ← Nat.add_mul]; congr 1; omega
  · simp only [cells, Array.toList_append, zeroCells_one, Nat.mul_one]
    rw [List.take_append_of_le_length (by simp), List.take_of_length_le (by simp)]

theorem st_sliceLo {T E : TypeId} {z : Value} {by_ : Nat} {x lo : Operand} {A : Option Addr} {n c : Nat} {li : Int} [hT : SlT P T E] [hi : Inf P E z 1 by_] (l : Nat) (hx : a.eval x = .slice A n c) (hl' : a.eval lo = .int .i64 li) (hli : li = (l : Int)) (h1 : l ≤ n) (h2 : n ≤ c)
    (h : ∀ A', Win A A' n l n → K (a.put dst (.slice A' (n - l) (c - l))) w) : Oper.wp P (⟨dst, .slice T x (some lo) none none, ty, pos, aft, gd⟩) a w K Q := by
  have hl : a.eval lo = .int .i64 l := by rw [hl', hli]
  obtain ⟨i, g1, g2, g3, g4, g5⟩ := hi.h
  refine st_do rfl ?_ (h _ (win_of A n c l n h1 (Nat.le_refl _) h2))
  have e1 : (0 : Int) ≤ (l : Int) ∧ (l : Int) ≤ (n : Int) := by omega
  simp [execOp, hx, hl, Instr.sliceAt, Instr.slice, Instr.sliceBounds, Instr.sliceBound, asIntOf, run_underlying hT.h, Go.sizeOf, typeInfo, g1, g3, e1]
  intro h; omega

theorem st_sliceHi {T E : TypeId} {z : Value} {by_ : Nat} {x hi' : Operand} {A : Option Addr} {n c : Nat} {ki : Int} [hT : SlT P T E] [hi : Inf P E z 1 by_] (k : Nat) (hx : a.eval x = .slice A n c) (hl' : a.eval hi' = .int .i64 ki) (hki : ki = (k : Int)) (h1 : k ≤ n) (h2 : n ≤ c)
    (h : ∀ A', Win A A' n 0 k → K (a.put dst (.slice A' k c)) w) : Oper.wp P (⟨dst, .slice T x none (some hi') none, ty, pos, aft, gd⟩) a w K Q := by
  have hl : a.eval hi' = .int .i64 k := by rw [hl', hki]
  obtain ⟨i, g1, g2, g3, g4, g5⟩ := hi.h
  refine st_do rfl ?_ (h _ (win_of A n c 0 k (Nat.zero_le _) h1 h2))
  have e1 : (0 : Int) ≤ (k : Int) ∧ (k : Int) ≤ (c : Int) := by omega
  simp [execOp, hx, hl, Instr.sliceAt, Instr.slice, Instr.sliceBounds, Instr.sliceBound, asIntOf, run_underlying hT.h, Go.sizeOf, typeInfo, g1, e1]
  intro h; omega

theorem st_sliceLH {T E : TypeId} {z : Value} {by_ : Nat} {x lo hi' : Operand} {A : Option Addr} {n c : Nat} {li ki : Int} [hT : SlT P T E] [hi : Inf P E z 1 by_] (l k : Nat) (hx : a.eval x = .slice A n c) (hl' : a.eval lo = .int .i64 li) (hh' : a.eval hi' = .int .i64 ki) (hli : li = (l : Int)) (hki : ki = (k : Int)) (h0 : l ≤ k) (h1 : k ≤ n) (h2 : n ≤ c)
    (h : ∀ A', Win A A' n l k → K (a.put dst (.slice A' (k - l) (c - l))) w) : Oper.wp P (⟨dst, .slice T x (some lo) (some hi') none, ty, pos, aft, gd⟩) a w K Q := by
  have hl : a.eval lo = .int .i64 l := by rw [hl', hli]
  have hh : a.eval hi' = .int .i64 k := by rw [hh', hki]
  obtain ⟨i, g1, g2, g3, g4, g5⟩ := hi.h
  refine st_do rfl ?_ (h _ (win_of A n c l k h0 h1 h2))
  have e1 : (0 : Int) ≤ (k : Int) ∧ (k : Int) ≤ (c : Int) := by omega
  have e2 : (0 : Int) ≤ (l : Int) ∧ (l : Int) ≤ (k : Int) := by omega
  simp [execOp, hx, hl, hh, Instr.sliceAt, Instr.slice, Instr.sliceBounds, Instr.sliceBound, asIntOf, run_underlying hT.h, Go.sizeOf, typeInfo, g1, g3, e1, e2]
  rw [if_pos (by omega), if_pos (by omega)]
end
end Sl

/-
  A region that draws its order, in the separation logic: what an operation yields in every world of which a list of resources is known is taken first; the others come one behind the other.
-/
namespace Sl
open Go Go.RowKit

section
variable {P : Program} {a : Act} {w0 w : World} {L : List HP}
variable {dst : Option Tmp} {ty : TypeId} {pos : String} {aft : Array Edge} {gd : Option (Nat × Bool)}

theorem Cl.blkL {b : Nat} {cur : Array Value} {E : TypeId} {fr : Nat × Nat} {off : Nat} {v : Value} (h : cur.toList[off]? = some v) : Cl w0 (Sl.blk b (.cells cur E fr) :: L) ⟨b, off, Option.none⟩ v := Cl.blk (by simpa using h)

/-- What a load yields. -/
theorem yl_load {T : TypeId} {x : Operand} {ad : Addr} {v : Value} [hT : Scal P T] (hs : Sat w0 w L) (hx : a.eval x = .pointer (some ad)) (hc : Cl w0 L ad v) {v' : Value} (hv : v' = v) :
    (execOp a.eval ⟨dst, .load T x, ty, pos, aft, gd⟩).run P w = .ok (.value v') w := by
  subst hv
  obtain ⟨d, h1, h2⟩ := hT.h
  have hagg : (isAgg T).run P w = .ok false w := by
    unfold isAgg
    rw [Sem.run_bind, run_underlying h1 w]
    cases d <;> simp_all
  simp [execOp, hx, Instr.loadAt, Instr.sureAddr, loadVar, hagg, load, Sem.run, hc w hs]

/-- What a load of a struct yields. -/
theorem yl_loadAgg {T : TypeId} {x : Operand} {b off n : Nat} {cur : Array Value} {E : TypeId} {fr : Nat × Nat} {L' : List HP} {cs : List Value} [hT : AggT P T n] (hs : Sat w0 w L) (hx : a.eval x = .pointer (some ⟨b, off, none⟩))
    (ho : Out (blk b (.cells cur E fr)) L L') (hn : off + n ≤ cur.size) (hcs : (cur.toList.drop off).take n = cs) {v : Value} (hv : v = .agg cs.toArray) :
    (execOp a.eval ⟨dst, .load T x, ty, pos, aft, gd⟩).run P w = .ok (.value v) w := by
  subst hv
  obtain ⟨⟨d, h1, h2⟩, h3⟩ := hT.h
  subst hcs
  have hg := hs.get ho
  have hlen : ((cur.toList.drop off).take n).length = n := by simp; omega
  have hl := run_loadAt_mid (P := P) w b off T ((cur.toList.drop off).take n) d (fun j v hv => by
    rw [List.getElem?_take] at hv
    split at hv
    · rw [List.getElem?_drop] at hv
      simpa [World.cell?, hg] using hv
    · cases hv) h1 h2 (by rw [h3, hlen])
  simp only [execOp, hx, Sem.run_bind, hl, Result.andThen_ok, Sem.run_pure]

/-- What the conversion of bytes to a string yields. -/
theorem yl_b2s {S D E : TypeId} [hS : SlT P S E] [hE : U8T P E] [hD : StrT P D] {x : Operand} {A : Option Addr} {n c : Nat} {l : List UInt8} (hs : Sat w0 w L) (hx : a.eval x = .slice A n c) (hr : Rd w0 L A n 1 (B8 l)) {v : Value} (hv : v = .string ⟨l.toArray⟩) :
    (execOp a.eval ⟨dst, .convert S D x, ty, pos, aft, gd⟩).run P w = .ok (.value v) w := by
  subst hv
  simp only [execOp, hx, conv_b2s hr hs, Sem.run_bind, Result.andThen_ok, Sem.run_pure]

theorem if_wanted {c : Bool} {p q : Prop} (h : c = true) (hp : p) : if c = true then p else q := by rw [if_pos h]; exact hp
end

section
variable {P : Program} {ops : Array Oper} {Q : Exit → Act → World → Prop} {w0 : World} {L : List HP}

/-- Whatever order comes, and L is known behind every operation. -/
def rg (P : Program) (ops : Array Oper) (Q : Exit → Act → World → Prop) (w0 : World) (L : List HP) (fuel : Nat) (listed : Array Bool) (a : Act) (w : World) : Prop :=
  wpAnyH P .any ops Q (fun w' => Sat w0 w' L) fuel listed a w

theorem rg_start {id : Nat} {a : Act} {w : World} (hm : P.follows .mixedOrders = true) (hs : Sat w0 w L)
    (h : ∀ w1, Sat w0 w1 L → rg P ops Q w0 L ops.size (Array.replicate ops.size false) a w1) : (Code.region id ops true).wp P Q a w :=
  wp_region_held_drew hm (S := fun w' => Sat w0 w' L) hs.drew fun h1 => h _ h1

theorem rg_start2 {id : Nat} {a : Act} {w : World} {L' : List HP} (hm : P.follows .mixedOrders = true) (hs : Sat w0 w L') (hp : Pick L' L)
    (h : ∀ w1, Sat w0 w1 L' → Sat w0 w1 L → rg P ops Q w0 L ops.size (Array.replicate ops.size false) a w1) : (Code.region id ops true).wp P Q a w :=
  wp_region_held_drew hm (S := fun w' => Sat w0 w' L) (hs.drew.pick hp) fun h1 => h _ hs.drew h1

theorem wpAnyH_imp {md : Region.Mode} {S S' : World → Prop} (hS : ∀ w, S' w → S w) : ∀ (fuel : Nat) (listed : Array Bool) (a : Act) (w : World), wpAnyH P md ops Q S' fuel listed a w → wpAnyH P md ops Q S fuel listed a w
  | 0, _, _, _, h => h
  | _ + 1, _, _, _, h => ⟨h.1, fun i hi => wpOp_mono (fun _ _ h' => ⟨hS _ h'.1, wpAnyH_imp hS _ _ _ _ h'.2⟩) (h.2 i hi)⟩

/-- More is known from here on. -/
theorem rg_more {L' : List HP} {fuel : Nat} {listed : Array Bool} {a : Act} {w : World} (hp : Pick L' L) (h : rg P ops Q w0 L' fuel listed a w) : rg P ops Q w0 L fuel listed a w :=
  wpAnyH_imp (fun _ hs => hs.pick hp) _ _ _ _ h

/-- The way that a list of resources is told by a fact. -/
theorem Sat.pickOf {w0 w : World} {L L' : List HP} (_ : Sat w0 w L') (hp : Pick L' L) : Pick L' L := hp

theorem rg_take {i : Nat} {oi : Oper} {v : Value} {fuel : Nat} {listed : Array Bool} {a : Act} {w : World} (hi : ops.toList[i]? = some oi)
    (hn : Region.noSelect ops = true) (hf : Region.free .any ops listed i = true) (hr : (Region.ready .any ops listed).contains i = true)
    (hQ : ∀ c a w, Q (.panic c) (a.put oi.dst v) w → Q (.panic c) a w) (hw : Region.wanted oi (yielded ops a.tmps) = true) (hs : Sat w0 w L)
    (hy : ∀ w, Sat w0 w L → (execOp a.eval oi).run P w = .ok (.value v) w)
    (h : rg P ops Q w0 L fuel (listed.setIfInBounds i true) (a.put oi.dst v) w) : rg P ops Q w0 L (fuel + 1) listed a w :=
  wpAnyH_take (by simpa using hi) hn hf hr hQ (.inl ⟨hw, hy⟩) hs h

theorem rg_skip {i : Nat} {oi : Oper} {fuel : Nat} {listed : Array Bool} {a : Act} {w : World} (hi : ops.toList[i]? = some oi)
    (hn : Region.noSelect ops = true) (hf : Region.free .any ops listed i = true) (hr : (Region.ready .any ops listed).contains i = true)
    (hQ : ∀ c a w, Q (.panic c) (a.put oi.dst undef) w → Q (.panic c) a w) (hw : Region.wanted oi (yielded ops a.tmps) = false) (hs : Sat w0 w L)
    (h : rg P ops Q w0 L fuel (listed.setIfInBounds i true) (a.put oi.dst undef) w) : rg P ops Q w0 L (fuel + 1) listed a w :=
  wpAnyH_take (by simpa using hi) hn hf hr hQ (.inr ⟨hw, rfl⟩) hs h

/-- The only one that may come. -/
theorem rg_one {i : Nat} {oi : Oper} {fuel : Nat} {listed : Array Bool} {a : Act} {w : World} (hr : Region.ready .any ops listed = [i]) (hi : ops.toList[i]? = some oi) (hw : Region.wanted oi (yielded ops a.tmps) = true)
    (h : ∀ K : Act → World → Prop, Shut (∀ a w, Sat w0 w L → rg P ops Q w0 L fuel (listed.setIfInBounds i true) a w → K a w) → Oper.wp P oi a w K Q) : rg P ops Q w0 L (fuel + 1) listed a w :=
  wpAnyH_ready hr (by simp) (.cons (by simpa using hi) (fun K hK => by rw [if_pos hw]; exact h K (fun a w h1 h2 => hK a w h1 (fun _ => h2))) .nil)

theorem rg_two {i j : Nat} {oi oj : Oper} {fuel : Nat} {listed : Array Bool} {a : Act} {w : World} (hr : Region.ready .any ops listed = [i, j]) (hi : ops.toList[i]? = some oi) (hj : ops.toList[j]? = some oj)
    (hw : Region.wanted oi (yielded ops a.tmps) = true) (hw2 : Region.wanted oj (yielded ops a.tmps) = true)
    (h : ∀ K : Act → World → Prop, Shut (∀ a w, Sat w0 w L → rg P ops Q w0 L fuel (listed.setIfInBounds i true) a w → K a w) → Oper.wp P oi a w K Q)
    (h2 : ∀ K : Act → World → Prop, Shut (∀ a w, Sat w0 w L → rg P ops Q w0 L fuel (listed.setIfInBounds j true) a w → K a w) → Oper.wp P oj a w K Q) : rg P ops Q w0 L (fuel + 1) listed a w :=
  wpAnyH_ready hr (by simp) (.cons (by simpa using hi) (fun K hK => by rw [if_pos hw]; exact h K (fun a w h1 h2 => hK a w h1 (fun _ => h2))) (.cons (by simpa using hj) (fun K hK => by rw [if_pos hw2]; exact h2 K (fun a w h1 h2 => hK a w h1 (fun _ => h2))) .nil))

/-- Back into the region. -/
theorem rg_back {fuel : Nat} {listed : Array Bool} {K : Act → World → Prop} (hK : Shut (∀ a w, Sat w0 w L → rg P ops Q w0 L fuel listed a w → K a w)) {a : Act} {w : World} (hs : Sat w0 w L) (h : Sat w0 w L → rg P ops Q w0 L fuel listed a w) : K a w :=
  hK.out a w hs (h hs)

theorem rg_done {listed : Array Bool} {a : Act} {w : World} {fuel : Nat} (hr : Region.ready .any ops listed = []) (h : Q .normal a w) : rg P ops Q w0 L fuel listed a w := wpAnyH_done hr h fuel
attribute [irreducible] rg
#print axioms rg_two
end
end Sl

/-
  Returns of functions whose result lies in a cell. No Go program in it.
-/
namespace Sl
open Go Go.RowKit

section
variable {P : Program} {w0 w : World} {L L' : List HP} {fn : Func} {R : Ending → World → Prop} {a : Act}

theorem run_loadVar_sl {T : TypeId} {b off n : Nat} {cur : Array Value} {E : TypeId} {fr : Nat × Nat} {cs : List Value} [hT : AggT P T n] (hs : Sat w0 w L)
    (ho : Out (blk b (.cells cur E fr)) L L') (hn : off + n ≤ cur.size) (hcs : (cur.toList.drop off).take n = cs) : (loadVar T ⟨b, off, none⟩).run P w = .ok (.agg cs.toArray) w := by
  obtain ⟨⟨d, h1, h2⟩, h3⟩ := hT.h
  subst hcs
  have hg := hs.get ho
  have hlen : ((cur.toList.drop off).take n).length = n := by simp; omega
  exact run_loadVar_mid (P := P) w b off T ((cur.toList.drop off).take n) d (fun j v hv => by
    rw [List.getElem?_take] at hv
    split at hv
    · rw [List.getElem?_drop] at hv
      simpa [World.cell?, hg] using hv
    · cases hv) h1 h2 (by rw [h3, hlen])

theorem retC1 {s : Tmp} {T : TypeId} {b n : Nat} {cur : Array Value} {E : TypeId} {fr : Nat × Nat} {cs : List Value} [hT : AggT P T n] (hf : fn.results = #[.cell s T]) (hp : a.tmps.getD s undef = .pointer (some ⟨b, 0, none⟩)) (hs : Sat w0 w L)
    (ho : Out (blk b (.cells cur E fr)) L L') (hn : 0 + n ≤ cur.size) (hcs : (cur.toList.drop 0).take n = cs) (hd : a.defers = []) (hR : R (.returned (.agg cs.toArray)) w) : bodyPost P fn R .ret a w := by
  refine bodyPost_ret ?_ hd hR
  have hl := run_loadVar_sl (P := P) (T := T) hs ho hn hcs
  rw [Array.getD_eq_getD_getElem?] at hp
  simp [results, hf, asAddr, hp, hl]

theorem retC1T {s t : Tmp} {T : TypeId} {b n : Nat} {cur : Array Value} {E : TypeId} {fr : Nat × Nat} {cs : List Value} [hT : AggT P T n] (hf : fn.results = #[.cell s T, .tmp t]) (hp : a.tmps.getD s undef = .pointer (some ⟨b, 0, none⟩)) (hs : Sat w0 w L)
    (ho : Out (blk b (.cells cur E fr)) L L') (hn : 0 + n ≤ cur.size) (hcs : (cur.toList.drop 0).take n = cs) (hd : a.defers = []) (hR : R (.returned (.tuple #[.agg cs.toArray, a.tmps.getD t undef])) w) : bodyPost P fn R .ret a w := by
  refine bodyPost_ret ?_ hd hR
  have hl := run_loadVar_sl (P := P) (T := T) hs ho hn hcs
  rw [Array.getD_eq_getD_getElem?] at hp
  simp [results, hf, asAddr, hp, hl]
#print axioms retC1T
end
end Sl

/-
  What cells hold as values of one's own: numbers, bytes, slices of anything, over whatever reads memory ('Rdr': a world, or all worlds of which a list of resources is known). No Go program in it.
-/
namespace Sl
open Go Go.RowKit

/-- What reads: at an address, so many elements of so many cells, the cells. -/
abbrev Rdr := Option Addr → Nat → Nat → List Value → Prop
abbrev IsV (α : Type) := Rdr → List Value → α → Prop
def IsV.Mono {α : Type} (f : IsV α) : Prop := ∀ (R R' : Rdr), (∀ A n sz vs, R A n sz vs → R' A n sz vs) → ∀ cs x, f R cs x → f R' cs x

def IntV : IsV Int := fun _ cs x => cs = [.int .i64 x]
def BoolV : IsV Bool := fun _ cs x => cs = [.bool x]
def BytesV : IsV (List UInt8) := fun R cs x => ∃ A c, cs = [.slice A x.length c] ∧ R A x.length 1 (B8 x)
def SlV {α : Type} (f : IsV α) (sz : Nat) : IsV (List α) := fun R cs xs => ∃ A c vs, cs = [.slice A xs.length c] ∧ R A xs.length sz vs ∧ vs.length = xs.length * sz ∧ ∀ (i : Nat) (x : α), xs[i]? = some x → f R ((vs.drop (i * sz)).take sz) x

theorem BytesV.mono : IsV.Mono BytesV := fun _ _ h _ _ ⟨A, c, e, hr⟩ => ⟨A, c, e, h _ _ _ _ hr⟩
theorem IntV.mono : IsV.Mono IntV := fun _ _ _ _ _ e => e
theorem BoolV.mono : IsV.Mono BoolV := fun _ _ _ _ _ e => e
theorem SlV.mono {α : Type} {f : IsV α} {sz : Nat} (hf : f.Mono) : (SlV f sz).Mono := fun _ _ h _ _ ⟨A, c, vs, e, hr, hl, hx⟩ => ⟨A, c, vs, e, h _ _ _ _ hr, hl, fun i x hi => hf _ _ h _ _ (hx i x hi)⟩

section
variable {w0 w : World} {L L' : List HP} {p : HP} {α : Type} {f : IsV α} {cs : List Value} {x : α}

theorem Rd.cons_all : ∀ A n sz vs, Rd w0 L A n sz vs → Rd w0 (p :: L) A n sz vs := fun _ _ _ _ h => h.cons
theorem IsV.Mono.cons (hf : f.Mono) (h : f (Rd w0 L) cs x) : f (Rd w0 (p :: L)) cs x := hf _ _ Rd.cons_all _ _ h
theorem Rd.pick_all (hp : Pick L' L) : ∀ A n sz vs, Rd w0 L A n sz vs → Rd w0 L' A n sz vs := fun _ _ _ _ h w hs => h w (hs.pick hp)
theorem IsV.Mono.pick (hf : f.Mono) (hp : Pick L' L) (h : f (Rd w0 L) cs x) : f (Rd w0 L') cs x := hf _ _ (Rd.pick_all hp) _ _ h
end

/-- What read at the beginning reads as long as old memory is known. -/
theorem Reads.old {W : World} {A : Option Addr} {n sz : Nat} {xs : List Value} (h : Reads W A n sz xs) (L : List HP) : Rd W (old W :: L) A n sz xs := by
  intro w hs
  refine ⟨h.len, h.nil, fun a e j u hu => ⟨(h.cell a e j u hu).1, ?_⟩⟩
  have hc := (h.cell a e j u hu).2
  have hb := World.block_lt_of_cell? W _ hc
  rw [← hc]
  exact World.cell?_of_block (hs.of_old (.here _) _ hb)

theorem IsV.Mono.old {α : Type} {f : IsV α} {W : World} {cs : List Value} {x : α} (hf : f.Mono) (h : f (Reads W) cs x) (L : List HP) : f (Rd W (Sl.old W :: L)) cs x := hf _ _ (fun _ _ _ _ h => h.old L) _ _ h

section
variable {P : Program} {ops : Array Oper} {Q : Exit → Act → World → Prop} {rest : List Oper} {a : Act} {w0 w : World} {L : List HP}
variable {dst : Option Tmp} {ty : TypeId} {pos : String} {aft : Array Edge}

theorem Rd.row_at {b off n sz : Nat} {xs : List Value} (h : Rd w0 L (some ⟨b, off, none⟩) n sz xs) (k : Nat) (hk : k < n) : Rd w0 L (some ⟨b, off + k * sz, none⟩) 1 sz ((xs.drop (k * sz)).take sz) := by
  intro w hs
  have hr := h w hs
  have hl := hr.len
  have hle : (k + 1) * sz ≤ n * sz := Nat.mul_le_mul_right _ hk
  refine ⟨by rw [List.length_take, List.length_drop, hl]; rw [Nat.add_mul] at hle; omega, fun e => (by cases e), fun a e j u hu => ?_⟩
  cases e
  refine ⟨rfl, ?_⟩
  rw [List.getElem?_take] at hu
  split at hu
  · rw [List.getElem?_drop] at hu
    have := (hr.cell _ rfl _ u hu).2
    simpa [Nat.add_assoc] using this
  · cases hu

/-- A load of a struct out of what reads. -/
theorem run_loadAgg_rd {T : TypeId} {b off sz : Nat} {cs : List Value} [hT : AggT P T sz] (hs : Sat w0 w L) (hr : Rd w0 L (some ⟨b, off, none⟩) 1 sz cs) :
    (Instr.loadAt T (.pointer (some ⟨b, off, none⟩))).run P w = .ok (.agg cs.toArray) w := by
  obtain ⟨⟨d, h1, h2⟩, h3⟩ := hT.h
  have hr' := hr w hs
  exact run_loadAt_mid (P := P) w b off T cs d (fun j v hv => (hr'.cell _ rfl j v hv).2) h1 h2 (by rw [h3, hr'.len, Nat.one_mul])

theorem wl_loadAggR {T : TypeId} {x : Operand} {b off sz : Nat} {cs : List Value} [hT : AggT P T sz] (hs : Sat w0 w L) (hx : a.eval x = .pointer (some ⟨b, off, none⟩)) (hr : Rd w0 L (some ⟨b, off, none⟩) 1 sz cs)
    (h : wpList P ops Q rest (a.put dst (.agg cs.toArray)) w) : wpList P ops Q (⟨dst, .load T x, ty, pos, aft, none⟩ :: rest) a w :=
  wl_do rfl (v := .agg cs.toArray) (w' := w) (by simp only [execOp, hx, Sem.run_bind, run_loadAgg_rd hs hr, Result.andThen_ok, Sem.run_pure]) h

theorem yl_loadAggR {T : TypeId} {x : Operand} {b off sz : Nat} {cs : List Value} {gd : Option (Nat × Bool)} [hT : AggT P T sz] (hs : Sat w0 w L) (hx : a.eval x = .pointer (some ⟨b, off, none⟩)) (hr : Rd w0 L (some ⟨b, off, none⟩) 1 sz cs) {v : Value} (hv : v = .agg cs.toArray) :
    (execOp a.eval ⟨dst, .load T x, ty, pos, aft, gd⟩).run P w = .ok (.value v) w := by
  subst hv
  simp only [execOp, hx, Sem.run_bind, run_loadAgg_rd hs hr, Result.andThen_ok, Sem.run_pure]

/-- One cell of a row. -/
theorem Rd.cell_at {b off n sz : Nat} {xs : List Value} (h : Rd w0 L (some ⟨b, off, none⟩) n sz xs) {j : Nat} {u : Value} (hu : xs[j]? = some u) : Cl w0 L ⟨b, off + j, none⟩ u :=
  fun w hs => ((h w hs).cell _ rfl j u hu).2
end

end Sl

/-
  Rules for walks that are printed step by step: control flow, and plain regions one operation at a time.
-/
namespace Sl
open Go Go.RowKit

section
variable {P : Program} {ops : Array Oper} {Q Q' : Exit → Act → World → Prop} {w0 w : World} {L : List HP} {a : Act} {rest : List Oper} {o : Oper}

/-- Short names: what is printed must not be long. -/
theorem aP {α : Type} (l : List α) (i : Nat) (x : α) : l.toArray.setIfInBounds i x = (l.set i x).toArray := List.setIfInBounds_toArray l i x
theorem aZ {α : Type} {x y : α} {l : List α} : (x :: l).set 0 y = y :: l := List.set_cons_zero
theorem aS {α : Type} {x y : α} {l : List α} {i : Nat} : (x :: l).set (i + 1) y = x :: l.set i y := List.set_cons_succ

theorem wk_seq {x y : Code} (h : ∀ K : Act → World → Prop, Shut (∀ a w, y.wp P Q a w → K a w) → x.wp P (Exit.then K Q) a w) : (Code.seq x y).wp P Q a w := wp_seq_k h
/-- 'wpList', shut: no tactic is to compute it. -/
@[irreducible] def wlx (P : Program) (ops : Array Oper) (Q : Exit → Act → World → Prop) (l : List Oper) (a : Act) (w : World) : Prop := wpList P ops Q l a w
theorem wk_reg {id : Nat} {l : List Oper} (h : wlx P l.toArray Q l a w) : (Code.region id l.toArray false).wp P Q a w := by
  unfold wlx at h
  exact wp_region_list h

theorem pl_done (h : Q .normal a w) : wlx P ops Q [] a w := by
  unfold wlx
  exact h

theorem pl_take {v : Value} (hw : Region.wanted o (yielded ops a.tmps) = true) (hy : (execOp a.eval o).run P w = .ok (.value v) w) (h : wlx P ops Q rest (a.put o.dst v) w) : wlx P ops Q (o :: rest) a w := by
  unfold wlx at h ⊢
  unfold wpList
  rw [if_pos hw]
  refine .inl ?_
  unfold Oper.wp
  rw [hy]
  exact h

theorem pl_skip (hw : Region.wanted o (yielded ops a.tmps) = false) (h : wlx P ops Q rest (a.put o.dst undef) w) : wlx P ops Q (o :: rest) a w := by
  unfold wlx at h ⊢
  unfold wpList
  rw [if_neg (by rw [hw]; simp)]
  exact h

theorem pl_eff (hw : Region.wanted o (yielded ops a.tmps) = true) (h : ∀ K : Act → World → Prop, Shut (∀ a w, wlx P ops Q rest a w → K a w) → Oper.wp P o a w K Q) : wlx P ops Q (o :: rest) a w := by
  unfold wlx at h ⊢
  unfold wpList
  rw [if_pos hw]
  exact .inl (h _ fun _ _ h => h)
end
section
variable {P : Program} {ops : Array Oper} {Q : Exit → Act → World → Prop} {w0 : World} {L : List HP}
/-- rg_take and rg_skip, short. -/
theorem rkT (i : Nat) {oi : Oper} {v : Value} {fuel : Nat} {listed : Array Bool} {a : Act} {w : World} (hi : ops.toList[i]? = some oi)
    (hn : Region.noSelect ops = true := by kernel_rfl) (hf : Region.free .any ops listed i = true := by kernel_rfl) (hr : (Region.ready .any ops listed).contains i = true := by kernel_rfl)
    (hQ : ∀ c a w, Q (.panic c) (a.put oi.dst v) w → Q (.panic c) a w := by exact fun _ _ _ h => h) (hw : Region.wanted oi (yielded ops a.tmps) = true := by kernel_rfl) (hs : Sat w0 w L := by assumption)
    (hy : ∀ w, Sat w0 w L → (execOp a.eval oi).run P w = .ok (.value v) w)
    (h : rg P ops Q w0 L fuel (listed.setIfInBounds i true) (a.put oi.dst v) w) : rg P ops Q w0 L (fuel + 1) listed a w := rg_take hi hn hf hr hQ hw hs hy h

theorem rkS (i : Nat) {oi : Oper} {fuel : Nat} {listed : Array Bool} {a : Act} {w : World} (hi : ops.toList[i]? = some oi)
    (hn : Region.noSelect ops = true := by kernel_rfl) (hf : Region.free .any ops listed i = true := by kernel_rfl) (hr : (Region.ready .any ops listed).contains i = true := by kernel_rfl)
    (hQ : ∀ c a w, Q (.panic c) (a.put oi.dst undef) w → Q (.panic c) a w := by exact fun _ _ _ h => h) (hw : Region.wanted oi (yielded ops a.tmps) = false := by kernel_rfl) (hs : Sat w0 w L := by assumption)
    (h : rg P ops Q w0 L fuel (listed.setIfInBounds i true) (a.put oi.dst undef) w) : rg P ops Q w0 L (fuel + 1) listed a w := rg_skip hi hn hf hr hQ hw hs h
end
section
variable {P : Program} {K : Act → World → Prop} {Q : Exit → Act → World → Prop} {a : Act} {w0 w : World} {L M : List HP}
variable {dst : Option Tmp} {ty : TypeId} {pos : String} {aft : Array Edge} {gd : Option (Nat × Bool)}
/-- A struct is written whole. -/
theorem st_storeAll {T : TypeId} {x y : Operand} {b n : Nat} {cur : Array Value} {E : TypeId} {v z : Value} {by_ : Nat} {L' : List HP} [hi : Inf P T z n by_] (hs : Sat w0 w L) (hx : a.eval x = .pointer (some ⟨b, 0, none⟩)) (hy : a.eval y = v)
    (ho : Out (blk b (.cells cur E (0, 0))) L L') (hn : v.cells.size = n) (h1 : ∀ u ∈ v.cells.toList, u.oneCell' = true) (hfit : n = cur.size)
    (h : ∀ w1, Sat w0 w1 (blk b (.cells v.cells E (0, 0)) :: L') → K (a.put dst undef) w1) : Oper.wp P ⟨dst, .store T x y, ty, pos, aft, gd⟩ a w K Q := by
  refine st_store hs hx hy ho hn h1 (by omega) fun w1 hw => h w1 ?_
  have e : upd cur 0 v.cells.toList = v.cells := by
    unfold upd
    rw [List.drop_eq_nil_of_le (by simp; omega)]
    simp
  rwa [e] at hw
end

theorem Cl.own {w0 : World} {L : List HP} {g : Nat} {E : TypeId} {c n k : Nat} {xs : List Value} {v : Value} (h : xs[k]? = some v) : Cl w0 (own E 1 (some ⟨g, 0, none⟩) c n xs :: L) ⟨g, k, none⟩ v := by
  have := (Rd.own (w0 := w0) (L := L) (E := E) (sz := 1) (A := some ⟨g, 0, none⟩) (c := c) (n := n) (xs := xs)).elt h
  simpa using this

#print axioms pl_eff
end Sl

/-
  Slices of structs of one's own, and resources that only read. No Go program in it.
-/
namespace Sl
open Go Go.RowKit

theorem fold_set (l : List Value) : ∀ (k : Nat) (cs : Array Value), k + l.length ≤ cs.size → ((l.zipIdx k).foldl (fun (cs : Array Value) (x : Value × Nat) => cs.setIfInBounds x.2 x.1) cs).toList = cs.toList.take k ++ l ++ cs.toList.drop (k + l.length) := by
  induction l with
  | nil => intro k cs _; simp
  | cons v l ih =>
    intro k cs hk
    simp only [List.length_cons] at hk
    simp only [List.zipIdx_cons, List.foldl_cons]
    rw [ih (k + 1) _ (by simp; omega)]
    have e := list_seg_step cs.toList k v l (by simp; omega)
    rw [show k + (v :: l).length = k + 1 + l.length from by simp; omega]
    simpa [show k + (l.length + 1) = k + 1 + l.length from by omega] using e

theorem fill_whole {n : Nat} {v : Value} {cells : Array Value} (hn : v.cells.size = n) (hc : cells.size = n) (place : Nat → Option (Nat × Nat)) (hp : place 0 = some (0, n)) : Instr.fill place cells [(0, v)] = some v.cells := by
  simp only [Instr.fill, hp]
  rw [if_neg (by simp [hn, hc])]
  congr 1
  apply Array.ext'
  have h := fold_set v.cells.toList 0 cells (by simp [hn, hc])
  simp only [List.take_zero, List.nil_append, Nat.zero_add] at h
  rw [List.drop_eq_nil_of_le (by simp [hn, hc]), List.append_nil] at h
  rw [← h]
  congr 1
  rw [← Array.foldl_toList, Array.toList_zipIdx]
  simp only [Nat.zero_add]

section
variable {P : Program} {K : Act → World → Prop} {Q : Exit → Act → World → Prop} {a : Act} {w0 w : World} {L M : List HP}
variable {dst : Option Tmp} {ty : TypeId} {pos : String} {aft : Array Edge} {gd : Option (Nat × Bool)}
/-- 'T{v}', a slice of one struct. -/
theorem st_buildOne {T E : TypeId} {sz : Nat} {x : Operand} {v z : Value} {by_ : Nat} [hT : SlT P T E] [hi : Inf P E z sz by_] (hs : Sat w0 w L) (hv : a.eval x = v) (hn : v.cells.size = sz) (h0 : 0 < sz) (h1 : sz ≤ 65536)
    (h : ∀ b w1, Sat w0 w1 (own E sz (some ⟨b, 0, none⟩) 1 1 v.cells.toList :: L) → K (a.put dst (.slice (some ⟨b, 0, none⟩) 1 1)) w1) :
    Oper.wp P ⟨dst, .buildSlice T 1 #[(0, x)], ty, pos, aft, gd⟩ a w K Q := by
  obtain ⟨i, g1, g2, g3, g4, g5⟩ := hi.h
  subst g3
  refine st_do rfl (v := .slice (some ⟨w.heap.size, 0, none⟩) 1 1) (w' := w.alloc (.cells v.cells E)) ?_ (h _ _ (Sat.own_mk (hs.alloc _) (by rw [Array.length_toList, hn, Nat.one_mul]) (Nat.le_refl _) (by simp only [maxLen]; omega) (by rw [hn, Nat.one_mul]) (by rw [Nat.one_mul]; exact List.take_of_length_le (by rw [Array.length_toList, hn]; exact Nat.le_refl _))))
  have hf := fill_whole (cells := (Array.range (1 * i.size)).map fun j => z.cells[j % z.cells.size]!) hn (by simp) (fun k => some (k * i.size, i.size)) (by simp)
  have hz : ¬ (16777216 < i.size) := by omega
  have hz0 : ¬ i.size = 0 := by omega
  simp only [Nat.one_mul] at hf
  simp [execOp, Instr.buildSlice, run_underlying hT.h, Go.sizeOf, typeInfo, zeroValue, newRow, g1, g2, hz, hz0, hv, hf]
end

section
variable {P : Program} {ops : Array Oper} {Q : Exit → Act → World → Prop} {w0 : World} {L : List HP}
attribute [local semireducible] rg
theorem rg_three {i j k : Nat} {oi oj ok : Oper} {fuel : Nat} {listed : Array Bool} {a : Act} {w : World} (hr : Region.ready .any ops listed = [i, j, k]) (hi : ops.toList[i]? = some oi) (hj : ops.toList[j]? = some oj) (hk : ops.toList[k]? = some ok)
    (hw : Region.wanted oi (yielded ops a.tmps) = true) (hw2 : Region.wanted oj (yielded ops a.tmps) = true) (hw3 : Region.wanted ok (yielded ops a.tmps) = true)
    (h : ∀ K : Act → World → Prop, Shut (∀ a w, Sat w0 w L → rg P ops Q w0 L fuel (listed.setIfInBounds i true) a w → K a w) → Oper.wp P oi a w K Q)
    (h2 : ∀ K : Act → World → Prop, Shut (∀ a w, Sat w0 w L → rg P ops Q w0 L fuel (listed.setIfInBounds j true) a w → K a w) → Oper.wp P oj a w K Q)
    (h3 : ∀ K : Act → World → Prop, Shut (∀ a w, Sat w0 w L → rg P ops Q w0 L fuel (listed.setIfInBounds k true) a w → K a w) → Oper.wp P ok a w K Q) : rg P ops Q w0 L (fuel + 1) listed a w :=
  wpAnyH_ready hr (by simp) (.cons (by simpa using hi) (fun K hK => by rw [if_pos hw]; exact h K (fun a w h1 h2 => hK a w h1 (fun _ => h2))) (.cons (by simpa using hj) (fun K hK => by rw [if_pos hw2]; exact h2 K (fun a w h1 h2 => hK a w h1 (fun _ => h2))) (.cons (by simpa using hk) (fun K hK => by rw [if_pos hw3]; exact h3 K (fun a w h1 h2 => hK a w h1 (fun _ => h2))) .nil)))
end

/-! ### What only reads -/
def RdH (h : Hl) : Rdr := fun A n sz vs => vs.length = n * sz ∧ (A = none → n = 0) ∧ ∀ a, A = some a → ∀ j u, vs[j]? = some u → a.spot = none ∧ ∃ cells E fr, h a.block = some (.cells cells E fr) ∧ cells[a.off + j]? = some u

theorem RdH.mono {h h' : Hl} (hl : h.le h') {A n sz vs} (r : RdH h A n sz vs) : RdH h' A n sz vs :=
  ⟨r.1, r.2.1, fun a e j u hu => by obtain ⟨h1, c, E, fr, h2, h3⟩ := r.2.2 a e j u hu; exact ⟨h1, c, E, fr, hl _ _ h2, h3⟩⟩

theorem RdH.reads {w : World} {h : Hl} (hl : h.le (Sl.hl w)) {A n sz vs} (r : RdH h A n sz vs) : Reads w A n sz vs :=
  ⟨r.1, r.2.1, fun a e j u hu => by
    obtain ⟨h1, c, E, fr, h2, h3⟩ := r.2.2 a e j u hu
    have h4 : w.heap[a.block]? = some (.cells c E fr) := hl _ _ h2
    exact ⟨h1, by simp [World.cell?, h4, h3]⟩⟩

/-- Rows that read, in blocks of this resource. -/
def DV (l : List (Option Addr × List UInt8)) : HP := fun h => ∀ y ∈ l, RdH h y.1 y.2.length 1 (B8 y.2)

theorem DV.rd {w0 : World} {L : List HP} {l : List (Option Addr × List UInt8)} {A : Option Addr} {d : List UInt8} (hm : (A, d) ∈ l) : Rd w0 (DV l :: L) A d.length 1 (B8 d) := by
  intro w hs
  obtain ⟨p, q, h1, _, _, h3, _⟩ := hs.heap
  exact (h1 _ hm).reads h3

theorem own_rdh {E : TypeId} {A : Option Addr} {c n : Nat} {xs : List Value} {h : Hl} (H : own E 1 A c n xs h) : RdH h A n 1 xs := by
  obtain ⟨hl, hc⟩ := H
  refine ⟨hl, fun e => ?_, fun a e j u hu => ?_⟩
  · rcases hc with ⟨_, h, _⟩ | ⟨g, cur, e', _⟩
    · exact h
    · rw [e] at e'; cases e'
  · rcases hc with ⟨e', _⟩ | ⟨g, cur, e', hb, h3, h4, h5, h6⟩
    · rw [e] at e'; cases e'
    · rw [e] at e'; cases e'
      refine ⟨rfl, cur, E, (0, 0), hb, ?_⟩
      rw [← h6, List.getElem?_take] at hu
      split at hu
      · simpa using hu
      · cases hu

theorem Sat.dv_nil {w0 w : World} {L : List HP} (hs : Sat w0 w L) : Sat w0 w (DV [] :: L) := hs.map fun _ H => SatH.nil_cons (fun y hy => by cases hy) H

theorem Sat.dv_snoc {w0 w : World} {L : List HP} {E : TypeId} {A : Option Addr} {c : Nat} {l : List (Option Addr × List UInt8)} {d : List UInt8} (hs : Sat w0 w (own E 1 A c d.length (B8 d) :: DV l :: L)) : Sat w0 w (DV (l ++ [(A, d)]) :: L) := by
  refine hs.map fun h H => ?_
  obtain ⟨p, q, hp, ⟨r, t, hr, ht, hrt, h6, h7⟩, hpq, h4, h5⟩ := H
  refine ⟨p.un r, t, ?_, ht, ?_, Hl.un_le h4 (h6.trans h5), h7.trans h5⟩
  · intro y hy
    rcases List.mem_append.1 hy with hy | hy
    · exact (hr y hy).mono (Hl.le_un' (Hl.dj_le hpq (Hl.le_refl _) h6))
    · simp only [List.mem_singleton] at hy
      subst hy
      exact (own_rdh hp).mono Hl.le_un
  · exact Hl.un_dj (Hl.dj_le hpq (Hl.le_refl _) h7) hrt
theorem Sat.dv_snoc2 {w0 w : World} {L : List HP} {X : HP} {E : TypeId} {A : Option Addr} {c : Nat} {l : List (Option Addr × List UInt8)} {d : List UInt8} (hs : Sat w0 w (X :: own E 1 A c d.length (B8 d) :: DV l :: L)) : Sat w0 w (X :: DV (l ++ [(A, d)]) :: L) := by
  have h1 : Sat w0 w (own E 1 A c d.length (B8 d) :: DV l :: X :: L) := hs.pick (by (repeat (first | exact Pick.nil _ | exact Pick.tail _ | exact Out.here _ | apply Out.there | apply Pick.cons | apply Pick.drop)))
  exact h1.dv_snoc.pick (by (repeat (first | exact Pick.nil _ | exact Pick.tail _ | exact Out.here _ | apply Out.there | apply Pick.cons | apply Pick.drop)))
#print axioms Sat.dv_snoc2
end Sl

/-
  A slice of many structs that is built at once. No Go program in it.
-/
namespace Sl
open Go Go.RowKit

theorem fold_off (l : List Value) (off : Nat) : ∀ (k : Nat) (cs : Array Value), (l.zipIdx k).foldl (fun (cs : Array Value) (x : Value × Nat) => cs.setIfInBounds (off + x.2) x.1) cs = (l.zipIdx (off + k)).foldl (fun (cs : Array Value) (x : Value × Nat) => cs.setIfInBounds x.2 x.1) cs := by
  induction l with
  | nil => intro k cs; rfl
  | cons v l ih =>
    intro k cs
    simp only [List.zipIdx_cons, List.foldl_cons]
    rw [ih (k + 1)]
    rfl

theorem fill_many {sz : Nat} {place : Nat → Option (Nat × Nat)} (hp : ∀ i, place i = some (i * sz, sz)) : ∀ (vs : List Value) (k : Nat) (cells : Array Value), (∀ v ∈ vs, v.cells.size = sz) → (k + vs.length) * sz ≤ cells.size →
    Instr.fill place cells (vs.zipIdx k |>.map fun x => (x.2, x.1)) = some (cells.toList.take (k * sz) ++ (vs.map fun v => v.cells.toList).flatten ++ cells.toList.drop ((k + vs.length) * sz)).toArray
  | [], k, cells, _, _ => by simp [Instr.fill]
  | v :: vs, k, cells, h1, hk => by
    have hv := h1 v (by simp)
    simp only [List.length_cons] at hk
    have e1 : (k + (vs.length + 1)) * sz = k * sz + sz + vs.length * sz := by rw [Nat.add_mul, Nat.add_mul, Nat.one_mul]; omega
    have e2 : (k + 1 + vs.length) * sz = k * sz + sz + vs.length * sz := by rw [Nat.add_mul, Nat.add_mul, Nat.one_mul]
    simp only [List.zipIdx_cons, List.map_cons, Instr.fill, hp]
    rw [if_neg (by simp [hv]; omega)]
    obtain ⟨c2, hc2⟩ : ∃ c2, Array.foldl (fun (cs : Array Value) (x : Value × Nat) => cs.setIfInBounds (k * sz + x.2) x.1) cells v.cells.zipIdx = c2 := ⟨_, rfl⟩
    have hl : c2.toList = cells.toList.take (k * sz) ++ v.cells.toList ++ cells.toList.drop (k * sz + sz) := by
      rw [← hc2, ← Array.foldl_toList, Array.toList_zipIdx, fold_off, Nat.add_zero, fold_set _ _ _ (by simp [hv]; omega)]
      simp [hv]
    have hs2 : c2.size = cells.size := by
      have := congrArg List.length hl
      simp [hv] at this
      omega
    have ih := fill_many hp vs (k + 1) c2 (fun u hu => h1 u (by simp [hu])) (by rw [hs2, e2]; omega)
    have hc3 : Array.foldl (fun (cs : Array Value) (x : Value × Nat) => match x with | (c, j) => cs.setIfInBounds (k * sz + j) c) cells v.cells.zipIdx = c2 := hc2
    rw [hc3, ih, hl]
    congr 2
    have hk1 : (k + 1) * sz = k * sz + sz := by rw [Nat.add_mul, Nat.one_mul]
    have ht : (cells.toList.take (k * sz)).length = k * sz := by simp; omega
    have hlen2 : (cells.toList.take (k * sz) ++ v.cells.toList).length = k * sz + sz := by rw [List.length_append, ht]; simp [hv]
    rw [hk1, List.take_left' hlen2, e2, show k * sz + sz + vs.length * sz = (k * sz + sz) + vs.length * sz from rfl, List.drop_append, hlen2]
    rw [List.drop_eq_nil_of_le (by rw [hlen2]; omega), List.nil_append, List.drop_drop, List.length_cons, e1]
    simp only [List.flatten_cons, List.append_assoc]
    congr 3
    congr 1
    omega

section
variable {P : Program} {K : Act → World → Prop} {Q : Exit → Act → World → Prop} {a : Act} {w0 w : World} {L M : List HP}
variable {dst : Option Tmp} {ty : TypeId} {pos : String} {aft : Array Edge} {gd : Option (Nat × Bool)}
/-- 'T{v0, v1, ..}', a slice of structs. -/
theorem st_buildMany {T E : TypeId} {sz n : Nat} {parts : Array (Nat × Operand)} {vs : List Value} {z : Value} {by_ : Nat} [hT : SlT P T E] [hi : Inf P E z sz by_] (hs : Sat w0 w L)
    (hp : parts.toList.map (fun x => (x.1, a.eval x.2)) = vs.zipIdx.map fun x => (x.2, x.1)) (hn : vs.length = n) (h1 : ∀ v ∈ vs, v.cells.size = sz) (h0 : 0 < n) (hz0 : 0 < sz) (hb : n * sz ≤ 65536)
    (h : ∀ b w1, Sat w0 w1 (own E sz (some ⟨b, 0, none⟩) n n (vs.map fun v => v.cells.toList).flatten :: L) → K (a.put dst (.slice (some ⟨b, 0, none⟩) n n)) w1) :
    Oper.wp P ⟨dst, .buildSlice T n parts, ty, pos, aft, gd⟩ a w K Q := by
  obtain ⟨i, g1, g2, g3, g4, g5⟩ := hi.h
  subst g3
  have hfl : ((vs.map fun v => v.cells.toList).flatten).length = n * i.size := by
    rw [← hn]
    clear hp hn hb h
    induction vs with
    | nil => simp
    | cons v vs ih =>
      simp only [List.map_cons, List.flatten_cons, List.length_append, List.length_cons, Array.length_toList]
      rw [ih (fun u hu => h1 u (by simp [hu])), h1 v (by simp), Nat.add_mul, Nat.one_mul]; omega
  have hf := fill_many (place := fun k => some (k * i.size, i.size)) (fun _ => rfl) vs 0 ((Array.range (n * i.size)).map fun j => z.cells[j % z.cells.size]!) h1 (by simp [hn])
  simp only [Nat.zero_mul, List.take_zero, List.nil_append, Nat.zero_add, hn] at hf
  rw [List.drop_eq_nil_of_le (by simp), List.append_nil] at hf
  refine st_do rfl (v := .slice (some ⟨w.heap.size, 0, none⟩) n n) (w' := w.alloc (.cells (vs.map fun v => v.cells.toList).flatten.toArray E)) ?_ (h _ _ (Sat.own_mk (hs.alloc _) hfl (Nat.le_refl _) (by have := Nat.le_mul_of_pos_right n hz0; simp only [maxLen]; omega) (by simpa using hfl) (by show List.take (n * i.size) (List.flatten _) = _; exact List.take_of_length_le (by rw [hfl]; exact Nat.le_refl _))))
  have hz : ¬ (16777216 < n * i.size) := by omega
  have hz1 : ¬ n * i.size = 0 := by have := Nat.mul_pos h0 hz0; omega
  simp [execOp, Instr.buildSlice, run_underlying hT.h, Go.sizeOf, typeInfo, zeroValue, newRow, g1, g2, hz, hp, hf]
  intro h9
  exact absurd h9 hz1
end
#print axioms st_buildMany
end Sl

/-
  Rows of rows that are written: resources in a bag; a store into a row of structs. No Go program in it.
-/
namespace Sl
open Go Go.RowKit

section
variable {P : Program} {K : Act → World → Prop} {Q : Exit → Act → World → Prop} {a : Act} {w0 w : World} {L : List HP}
variable {dst : Option Tmp} {ty : TypeId} {pos : String} {aft : Array Edge} {gd : Option (Nat × Bool)}

/-- A store into a cell of an element of a slice of one's own. -/
theorem st_store_cell {T : TypeId} {x y : Operand} {b i c n sz : Nat} {xs : List Value} {E : TypeId} {v z : Value} {by_ : Nat} {L' : List HP} [hi : Inf P T z 1 by_] (hs : Sat w0 w L) (hx : a.eval x = .pointer (some ⟨b, i, none⟩)) (hy : a.eval y = v)
    (ho : Out (own E sz (some ⟨b, 0, none⟩) c n xs) L L') (hn : v.cells = #[v]) (h1 : v.oneCell' = true) (hlt : i < n * sz)
    (h : ∀ w1, Sat w0 w1 (own E sz (some ⟨b, 0, none⟩) c n (xs.set i v) :: L') → K (a.put dst undef) w1) : Oper.wp P ⟨dst, .store T x y, ty, pos, aft, gd⟩ a w K Q := by
  obtain ⟨hl, hc⟩ := (hs.out ho).own_inv
  rcases hc with ⟨e, _⟩ | ⟨g, cur, e, hb, h3, h4, h5, h6⟩
  · cases e
  · cases e
    have := Nat.mul_le_mul_right sz h3
    refine st_store1 hb hx hy (.here _) hn h1 (by omega) fun w1 hw => h w1 ?_
    refine Sat.own_mk hw (by simpa using hl) h3 h4 (by simpa using h5) ?_
    rw [← h6]
    simp [List.take_set]

/-- A row of one's own, whatever it holds. -/
def ownAny (E : TypeId) (A : Option Addr) (c n : Nat) : HP := fun h => ∃ xs, own E 1 A c n xs h

theorem Sat.any {E : TypeId} {A : Option Addr} {c n : Nat} {xs : List Value} (hs : Sat w0 w (own E 1 A c n xs :: L)) : Sat w0 w (ownAny E A c n :: L) := hs.to_head fun _ h => ⟨xs, h⟩
theorem Sat.any_open {E : TypeId} {A : Option Addr} {c n : Nat} (hs : Sat w0 w (ownAny E A c n :: L)) : ∃ xs, Sat w0 w (own E 1 A c n xs :: L) := hs.ex

theorem Sat.bag_nil (hs : Sat w0 w L) : Sat w0 w (SatH [] :: L) := Sat.join (M := []) hs

theorem Sat.bag_snoc {M : List HP} {p : HP} (hs : Sat w0 w (p :: SatH M :: L)) : Sat w0 w (SatH (M ++ [p]) :: L) := by
  have h2 := hs.swap.split
  refine Sat.join ?_
  rw [List.append_assoc]
  exact h2

theorem Sat.bag_snoc2 {M : List HP} {X p : HP} (hs : Sat w0 w (p :: X :: SatH M :: L)) : Sat w0 w (X :: SatH (M ++ [p]) :: L) := by
  have h1 : Sat w0 w (p :: SatH M :: X :: L) := hs.perm ((List.Perm.swap _ _ _).cons _)
  exact h1.bag_snoc.swap

theorem perm_at {α : Type} {p : α} : ∀ {M : List α} {i : Nat}, M[i]? = some p → M.Perm (p :: M.eraseIdx i)
  | [], i, h => by simp at h
  | x :: M, 0, h => by simp at h; subst h; exact .refl _
  | x :: M, i + 1, h => by
    have h1 : M[i]? = some p := by simpa using h
    exact ((perm_at h1).cons x).trans (.swap _ _ _)

theorem Sat.bag_take {M : List HP} {i : Nat} {p : HP} (hi : M[i]? = some p) (hs : Sat w0 w (SatH M :: L)) : Sat w0 w (p :: SatH (M.eraseIdx i) :: L) := by
  have h2 : Sat w0 w ((p :: M.eraseIdx i) ++ L) := hs.split.perm ((perm_at hi).append_right L)
  have h3 : Sat w0 w (M.eraseIdx i ++ (p :: L)) := h2.perm List.perm_middle.symm
  exact h3.join.swap

theorem Sat.bag_put {M : List HP} {i : Nat} {p : HP} (hi : M[i]? = some p) (hs : Sat w0 w (p :: SatH (M.eraseIdx i) :: L)) : Sat w0 w (SatH M :: L) := by
  have h3 : Sat w0 w (M.eraseIdx i ++ (p :: L)) := hs.swap.split
  have h2 : Sat w0 w ((p :: M.eraseIdx i) ++ L) := h3.perm List.perm_middle
  exact (h2.perm ((perm_at hi).symm.append_right L)).join

/-- A store into a row of one's own, whatever it holds. -/
theorem st_store_any {T : TypeId} {x y : Operand} {b i c n : Nat} {E : TypeId} {v z : Value} {by_ : Nat} {L' : List HP} [hi : Inf P T z 1 by_] (hs : Sat w0 w L) (hx : a.eval x = .pointer (some ⟨b, i, none⟩)) (hy : a.eval y = v)
    (ho : Out (ownAny E (some ⟨b, 0, none⟩) c n) L L') (hn : v.cells = #[v]) (h1 : v.oneCell' = true) (hlt : i < n)
    (h : ∀ w1, Sat w0 w1 (ownAny E (some ⟨b, 0, none⟩) c n :: L') → K (a.put dst undef) w1) : Oper.wp P ⟨dst, .store T x y, ty, pos, aft, gd⟩ a w K Q := by
  obtain ⟨xs, hx'⟩ := (hs.out ho).any_open
  exact st_store_own hx' hx hy (.here _) hn h1 hlt fun w1 hw => h w1 hw.any

theorem Sat.any_some {E : TypeId} {A : Option Addr} {c n : Nat} (h : Sat w0 w (ownAny E A c n :: L)) (hn : 0 < n) : ∃ g, A = some ⟨g, 0, none⟩ := by
  obtain ⟨xs, hx⟩ := h.any_open
  exact hx.own_some hn
end
#print axioms Sat.bag_put
end Sl

/-
  Maps as resources: rules for a map that is made, read, written, ranged over. No Go program in it.
-/
namespace Sl
open Go Go.RowKit Go.Maps

/-- Keys of type k: as values of a Lean type. -/
structure KT (P : Program) (k : TypeId) {κ : Type} (kv : κ → Value) (ok : κ → Prop) : Prop where
  law : Keyed P k
  key : ∀ x, ok x → ∃ l, keyOf P k (kv x) = some l
  inj : ∀ x y, kv x = kv y → x = y

class MapT (P : Program) (T : TypeId) (k e : outParam TypeId) : Prop where
  h : P.underlying T = some (.map k e)

section
variable {κ : Type} {P : Program} {k : TypeId} {kv : κ → Value} {ok : κ → Prop}

/-- Block b holds a map of these keys and elements. -/
def mp (kv : κ → Value) (ok : κ → Prop) (b : Nat) (l : List (κ × Value)) : HP := fun h =>
  ∃ es clock, h b = some (.map es clock) ∧ MapKept.Stamped es clock ∧ es.toList.map (fun e => (e.key, e.val)) = l.map (fun p => (kv p.1, p.2)) ∧ ∀ p ∈ l, ok p.1

/-- The keys of the entries, the values, and where a key stands. -/
theorem mp_nodup {es : Array MapEntry} {clock : Nat} {l : List (κ × Value)} (hs : MapKept.Stamped es clock) (hl : es.toList.map (fun e => (e.key, e.val)) = l.map (fun p => (kv p.1, p.2))) : (l.map (·.1)).Nodup := by
  have h3 := hs.2.2
  have e1 : es.toList.map (·.key) = (l.map (·.1)).map kv := by
    have := congrArg (List.map Prod.fst) hl
    simpa [List.map_map, Function.comp_def] using this
  rw [e1] at h3
  exact List.Pairwise.of_map kv (fun _ _ h e => h (by rw [e])) h3

theorem mp_find (T : KT P k kv ok) (w : World) {es : Array MapEntry} {l : List (κ × Value)} (hl : es.toList.map (fun e => (e.key, e.val)) = l.map (fun p => (kv p.1, p.2))) (hok : ∀ p ∈ l, ok p.1) {x : κ} (hx : ok x) :
    ((Instr.findKey k (kv x) es.toList).run P w = .ok none w ∧ (∀ e ∈ es.toList, e.key ≠ kv x) ∧ (∀ p ∈ l, p.1 ≠ x)) ∨
    ∃ j e, (Instr.findKey k (kv x) es.toList).run P w = .ok (some (j, e.val)) w ∧ es.toList[j]? = some e ∧ e.key = kv x ∧ l[j]? = some (x, e.val) := by
  obtain ⟨lx, hlx⟩ := T.key x hx
  have hkeys : ∀ e ∈ es.toList, ∃ z, keyOf P k e.key = some z := fun e he => by
    have h1 : (e.key, e.val) ∈ l.map (fun p => (kv p.1, p.2)) := by rw [← hl]; exact List.mem_map.2 ⟨e, he, rfl⟩
    obtain ⟨p, hp, h2⟩ := List.mem_map.1 h1
    simp only [Prod.mk.injEq] at h2
    rw [← h2.1]
    exact T.key _ (hok p hp)
  rcases T.law.find w hlx es.toList hkeys with ⟨h1, h2⟩ | ⟨j, e, h1, h2, h3⟩
  · refine .inl ⟨h1, h2, fun p hp e => ?_⟩
    have h4 : (kv p.1, p.2) ∈ es.toList.map (fun e => (e.key, e.val)) := by rw [hl]; exact List.mem_map.2 ⟨p, hp, rfl⟩
    obtain ⟨q, hq, h5⟩ := List.mem_map.1 h4
    simp only [Prod.mk.injEq] at h5
    exact h2 q hq (by rw [h5.1, e])
  · refine .inr ⟨j, e, h1, h2, h3, ?_⟩
    have h4 := congrArg (fun z => z[j]?) hl
    simp only [List.getElem?_map, h2, Option.map_some] at h4
    cases hp : l[j]? with
    | none => rw [hp] at h4; cases h4
    | some p =>
      rw [hp] at h4
      simp only [Option.map_some, Option.some.injEq, Prod.mk.injEq] at h4
      have := T.inj _ _ (h3.symm.trans h4.1)
      rw [this, h4.2]
variable {w0 w : World} {L : List HP}
theorem Sat.mp_inv {b : Nat} {l : List (κ × Value)} (hs : Sat w0 w (mp kv ok b l :: L)) :
    ∃ es clock, Sat w0 w (blk b (.map es clock) :: L) ∧ w.heap[b]? = some (.map es clock) ∧ MapKept.Stamped es clock ∧ es.toList.map (fun e => (e.key, e.val)) = l.map (fun p => (kv p.1, p.2)) ∧ ∀ p ∈ l, ok p.1 := by
  obtain ⟨h1, h2, ⟨es, clock, hb, hr⟩, h3⟩ := hs.heap
  have hh : Sat w0 w (blk b (.map es clock) :: L) := ⟨hs.os, hs.tape, hs.output, h1, h2, hb, h3⟩
  exact ⟨es, clock, hh, hh.get (.here _), hr⟩

theorem Sat.mp_mk {b : Nat} {es : Array MapEntry} {clock : Nat} {l : List (κ × Value)} (hs : Sat w0 w (blk b (.map es clock) :: L)) (h1 : MapKept.Stamped es clock) (h2 : es.toList.map (fun e => (e.key, e.val)) = l.map (fun p => (kv p.1, p.2))) (h3 : ∀ p ∈ l, ok p.1) :
    Sat w0 w (mp kv ok b l :: L) := hs.to_head fun _ hb => ⟨es, clock, hb, h1, h2, h3⟩

theorem Sat.setBlk {b : Nat} {o o' : Obj} (h : Sat w0 w (blk b o :: L)) : Sat w0 (ChangeMaps.setBlock w b o') (blk b o' :: L) := by
  have hb := h.get (.here _)
  have hlt : b < w.heap.size := (Array.getElem?_eq_some_iff.1 hb).1
  refine h.put_at (.here _) (by simp [ChangeMaps.setBlock, hlt]) (fun k hk _ => by simp [ChangeMaps.setBlock, Ne.symm hk]) rfl rfl rfl
variable {K : Act → World → Prop} {Q : Exit → Act → World → Prop} {a : Act}
variable {dst : Option Tmp} {ty : TypeId} {pos : String} {aft : Array Edge} {gd : Option (Nat × Bool)}

/-- 'make(map[K]V)'. -/
theorem st_makeMap {T : TypeId} (kv : κ → Value) (ok : κ → Prop) (hs : Sat w0 w L) (h : ∀ b w1, Sat w0 w1 (mp kv ok b [] :: L) → K (a.put dst (.map (some b))) w1) : Oper.wp P ⟨dst, .makeMap T none, ty, pos, aft, gd⟩ a w K Q := by
  refine st_do rfl (v := .map (some w.heap.size)) (w' := w.alloc (.map #[] 0)) ?_ (h _ _ (Sat.mp_mk (hs.alloc _) ⟨by simp, by simp, by simp⟩ rfl (by simp)))
  simp [execOp, Instr.makeMap]

/-- 'm[k]' of a nil map. -/
theorem yl_lookupNil {T e : TypeId} {z : Value} {sz by_ : Nat} {m x : Operand} {c : Bool} {xk : κ} [hT : MapT P T k e] [hi : Inf P e z sz by_] (KT' : KT P k kv ok) (hm : a.eval m = .map none) (hx : a.eval x = kv xk) (hok : ok xk) :
    (execOp a.eval ⟨dst, .lookup T m x c, ty, pos, aft, gd⟩).run P w = .ok (.value (if c then .tuple #[z, .bool false] else z)) w := by
  obtain ⟨lx, hlx⟩ := KT'.key xk hok
  obtain ⟨i, g1, g2, g3, g4, g5⟩ := hi.h
  have hz : (zeroValue e).run P w = .ok z w := by simp [zeroValue, typeInfo, g1, g2]
  rcases KT'.law.find w hlx [] (by simp) with ⟨f1, _⟩ | ⟨j, en, _, f2, _⟩
  · simp [execOp, Instr.lookup, hm, hx, run_underlying hT.h, KT'.law.check w _ hlx, f1, hz, Result.andThen]
  · simp at f2
/-- 'len(m)'. -/
theorem yl_maplen {T e : TypeId} {m : Operand} {b : Nat} {l : List (κ × Value)} {L' : List HP} [hT : MapT P T k e] (hs : Sat w0 w L) (hm : a.eval m = .map (some b)) (ho : Out (mp kv ok b l) L L') :
    (execOp a.eval ⟨dst, .call { callee := .builtin .len, args := #[m], argTypes := #[T] }, ty, pos, aft, gd⟩).run P w = .ok (.value (.int .i64 l.length)) w := by
  obtain ⟨es, clock, hS, hb, h1, h2, h3⟩ := (hs.out ho).mp_inv
  have hl : es.size = l.length := by have := congrArg List.length h2; simpa using this
  have hrun : (Builtin.len_ #[T] ty #[.map (some b)]).run P w = .ok (.int .i64 l.length) w := by
    rw [← hl]; simp [Builtin.len_, run_underlying hT.h, MapKept.run_getObj_map hb, goInt, Result.andThen]
  simp [execOp, resolve, invoke, builtin, hm, hrun, Result.andThen]
theorem yl_maplenV {T e : TypeId} {m : Operand} {b : Nat} {l : List (κ × Value)} {L' : List HP} {v : Value} [hT : MapT P T k e] (hs : Sat w0 w L) (hm : a.eval m = .map (some b)) (ho : Out (mp kv ok b l) L L') (hv : Value.int .i64 (l.length : Int) = v) :
    (execOp a.eval ⟨dst, .call { callee := .builtin .len, args := #[m], argTypes := #[T] }, ty, pos, aft, gd⟩).run P w = .ok (.value v) w := by
  rw [← hv]; exact yl_maplen hs hm ho

end

theorem map_eraseIdx' {α β : Type} {f : α → β} : ∀ {l : List α} {j : Nat}, (l.eraseIdx j).map f = (l.map f).eraseIdx j
  | [], _ => rfl
  | _ :: _, 0 => rfl
  | _ :: _, j + 1 => by simp only [List.eraseIdx_cons_succ, List.map_cons]; rw [map_eraseIdx']

section
variable {κ : Type} [DecidableEq κ]

/-- What a list of pairs holds at a key. -/
def mget (l : List (κ × Value)) (x : κ) : Option Value := (l.find? fun p => p.1 = x).map (·.2)
def mput (l : List (κ × Value)) (x : κ) (v : Value) : List (κ × Value) := if l.any (fun p => p.1 = x) then l.map (fun p => if p.1 = x then (x, v) else p) else l ++ [(x, v)]
def mdel (l : List (κ × Value)) (x : κ) : List (κ × Value) := l.filter fun p => p.1 ≠ x

variable {P : Program} {k : TypeId} {kv : κ → Value} {ok : κ → Prop}

theorem mget_none {l : List (κ × Value)} {x : κ} (h : ∀ p ∈ l, p.1 ≠ x) : mget l x = none := by
  unfold mget
  rw [List.find?_eq_none.2 (by intro p hp; simpa using h p hp)]
  rfl

theorem mget_some : ∀ {l : List (κ × Value)} {x : κ} {v : Value}, (l.map (·.1)).Nodup → (x, v) ∈ l → mget l x = some v
  | [], _, _, _, h => by cases h
  | (y, u) :: l, x, v, hn, h => by
    simp only [List.map_cons, List.nodup_cons] at hn
    by_cases e : y = x
    · subst e
      rcases List.mem_cons.1 h with h | h
      · cases h; simp [mget]
      · exact absurd (List.mem_map.2 ⟨_, h, rfl⟩) hn.1
    · have h' : (x, v) ∈ l := by
        rcases List.mem_cons.1 h with h | h
        · cases h; exact absurd rfl e
        · exact h
      have ih := mget_some hn.2 h'
      unfold mget at ih ⊢
      simpa [e] using ih

end

section
variable {κ : Type} [DecidableEq κ] {P : Program} {k : TypeId} {kv : κ → Value} {ok : κ → Prop}
variable {K : Act → World → Prop} {Q : Exit → Act → World → Prop} {a : Act} {w0 w : World} {L : List HP}
variable {dst : Option Tmp} {ty : TypeId} {pos : String} {aft : Array Edge} {gd : Option (Nat × Bool)}

/-- 'm[k]', 'v, ok := m[k]'. -/
theorem yl_lookup {T e : TypeId} {z : Value} {sz by_ : Nat} {m x : Operand} {c : Bool} {b : Nat} {l : List (κ × Value)} {xk : κ} {L' : List HP} [hT : MapT P T k e] [hi : Inf P e z sz by_] (KT' : KT P k kv ok) (hs : Sat w0 w L) (hm : a.eval m = .map (some b))
    (hx : a.eval x = kv xk) (ho : Out (mp kv ok b l) L L') (hok : ok xk) :
    (execOp a.eval ⟨dst, .lookup T m x c, ty, pos, aft, gd⟩).run P w = .ok (.value (if c then .tuple #[(mget l xk).getD z, .bool (mget l xk).isSome] else (mget l xk).getD z)) w := by
  obtain ⟨es, clock, _, hb, h1, h2, h3⟩ := (hs.out ho).mp_inv
  obtain ⟨lx, hlx⟩ := KT'.key xk hok
  obtain ⟨i, g1, g2, g3, g4, g5⟩ := hi.h
  have hz : (zeroValue e).run P w = .ok z w := by simp [zeroValue, typeInfo, g1, g2]
  rcases mp_find KT' w h2 h3 hok with ⟨f1, _, f2⟩ | ⟨j, en, f1, f2, f3, f4⟩
  · simp [execOp, Instr.lookup, hm, hx, run_underlying hT.h, MapKept.run_getObj_map hb, KT'.law.check w _ hlx, f1, hz, Result.andThen, mget_none f2]
  · have f5 := mget_some (mp_nodup h1 h2) (List.mem_of_getElem? f4)
    simp [execOp, Instr.lookup, hm, hx, run_underlying hT.h, MapKept.run_getObj_map hb, KT'.law.check w _ hlx, f1, Result.andThen, f5]

theorem yl_lookupV {T e : TypeId} {z : Value} {sz by_ : Nat} {m x : Operand} {c : Bool} {b : Nat} {l : List (κ × Value)} {xk : κ} {L' : List HP} {v : Value} [hT : MapT P T k e] [hi : Inf P e z sz by_] (KT' : KT P k kv ok) (hs : Sat w0 w L) (hm : a.eval m = .map (some b))
    (hx : a.eval x = kv xk) (ho : Out (mp kv ok b l) L L') (hok : ok xk) (hv : (if c then .tuple #[(mget l xk).getD z, .bool (mget l xk).isSome] else (mget l xk).getD z) = v) :
    (execOp a.eval ⟨dst, .lookup T m x c, ty, pos, aft, gd⟩).run P w = .ok (.value v) w := by
  rw [← hv]; exact yl_lookup KT' hs hm hx ho hok

theorem mput_none {l : List (κ × Value)} {x : κ} {v : Value} (h : ∀ p ∈ l, p.1 ≠ x) : mput l x v = l ++ [(x, v)] := by
  unfold mput
  rw [if_neg]
  intro hh
  obtain ⟨p, hp, h2⟩ := List.any_eq_true.1 hh
  exact h p hp (by simpa using h2)

theorem mput_at {l : List (κ × Value)} {x : κ} {u v : Value} {j : Nat} (hn : (l.map (·.1)).Nodup) (h : l[j]? = some (x, u)) : mput l x v = l.set j (x, v) := by
  unfold mput
  rw [if_pos (List.any_eq_true.2 ⟨_, List.mem_of_getElem? h, by simp⟩)]
  apply List.ext_getElem?
  intro i
  rw [List.getElem?_map, List.getElem?_set]
  have hj := (List.getElem?_eq_some_iff.1 h).1
  split
  · rename_i e
    subst e
    rw [h]; simp
  · rename_i e
    cases hi : l[i]? with
    | none => rfl
    | some p =>
      have hne : p.1 ≠ x := fun e2 => by
        have h1 : (l.map (·.1))[i]? = some x := by rw [List.getElem?_map, hi]; simp [e2]
        have h2 : (l.map (·.1))[j]? = some x := by rw [List.getElem?_map, h]; rfl
        have hi' := (List.getElem?_eq_some_iff.1 h1).1
        exact e (((List.getElem?_inj hi' hn).1 (h1.trans h2.symm)).symm)
      simp [hne]

theorem mdel_at {l : List (κ × Value)} {x : κ} {u : Value} {j : Nat} (hn : (l.map (·.1)).Nodup) (h : l[j]? = some (x, u)) : mdel l x = l.eraseIdx j := by
  induction l generalizing j with
  | nil => simp at h
  | cons p l ih =>
    simp only [List.map_cons, List.nodup_cons] at hn
    cases j with
    | zero =>
      simp at h; subst h
      have : l.filter (fun p => decide (p.1 ≠ x)) = l := List.filter_eq_self.2 (fun q hq => by
        simp only [ne_eq, decide_not, Bool.not_eq_eq_eq_not, Bool.not_true, decide_eq_false_iff_not]
        intro e; exact hn.1 (List.mem_map.2 ⟨q, hq, e⟩))
      simp only [mdel, List.filter_cons, List.eraseIdx_cons_zero]
      simpa using this
    | succ j =>
      have h' : l[j]? = some (x, u) := by simpa using h
      have hne : p.1 ≠ x := fun e => hn.1 (List.mem_map.2 ⟨_, List.mem_of_getElem? h', e.symm⟩)
      have := ih hn.2 h'
      simp only [mdel, List.filter_cons, List.eraseIdx_cons_succ] at this ⊢
      rw [if_pos (by simpa using hne), this]

theorem mdel_none {l : List (κ × Value)} {x : κ} (h : ∀ p ∈ l, p.1 ≠ x) : mdel l x = l := List.filter_eq_self.2 (fun p hp => by simpa using h p hp)

/-- 'm[k] = v'. -/
theorem st_mapUpdate {T e : TypeId} {m x y : Operand} {b : Nat} {l : List (κ × Value)} {xk : κ} {v : Value} {L' : List HP} [hT : MapT P T k e] (KT' : KT P k kv ok) (hs : Sat w0 w L) (hm : a.eval m = .map (some b))
    (hx : a.eval x = kv xk) (hy : a.eval y = v) (ho : Out (mp kv ok b l) L L') (hok : ok xk)
    (h : ∀ w1, Sat w0 w1 (mp kv ok b (mput l xk v) :: L') → K (a.put dst undef) w1) : Oper.wp P ⟨dst, .mapUpdate T m x y, ty, pos, aft, gd⟩ a w K Q := by
  obtain ⟨es, clock, hS, hb, h1, h2, h3⟩ := (hs.out ho).mp_inv
  obtain ⟨lx, hlx⟩ := KT'.key xk hok
  rcases mp_find KT' w h2 h3 hok with ⟨f1, f0, f2⟩ | ⟨j, en, f1, f2, f3, f4⟩
  · refine st_do_skip rfl (w' := ChangeMaps.setBlock w b (.map (es.push ⟨kv xk, v, clock⟩) (clock + 1))) ?_ (h _ (Sat.mp_mk hS.setBlk (MapKept.stamped_push h1 f0) ?_ ?_))
    · simp [execOp, Instr.mapUpdate, hm, hx, hy, run_underlying hT.h, MapKept.run_getObj_map hb, KT'.law.check w false hlx, f1, MapKept.run_setObj_map _ hb, Result.andThen, ChangeMaps.setBlock]
    · rw [mput_none f2, Array.toList_push, List.map_append, h2, List.map_append]; rfl
    · rw [mput_none f2]
      intro p hp
      rcases List.mem_append.1 hp with hp | hp
      · exact h3 p hp
      · simp only [List.mem_singleton] at hp; subst hp; exact hok
  · have hj : es[j]? = some en := by simpa using f2
    have hm1 := mput_at (v := v) (mp_nodup h1 h2) f4
    refine st_do_skip rfl (w' := ChangeMaps.setBlock w b (.map (es.modify j fun e' => { e' with key := kv xk, val := v }) clock)) ?_ (h _ (Sat.mp_mk hS.setBlk (MapKept.stamped_modify h1 _ _ (fun _ _ => rfl) (fun e' _ he' => by rw [hj] at he'; cases he'; exact f3.symm)) ?_ ?_))
    · simp [execOp, Instr.mapUpdate, hm, hx, hy, run_underlying hT.h, MapKept.run_getObj_map hb, KT'.law.check w false hlx, f1, hj, f3, KT'.law.stays w hlx, MapKept.run_setObj_map _ hb, Result.andThen, ChangeMaps.setBlock]
    · rw [hm1, Array.toList_modify, List.map_set, ← h2]
      apply List.ext_getElem?
      intro i
      rw [List.getElem?_map, List.getElem?_modify, List.getElem?_set]
      split
      · rename_i e1; subst e1; rw [f2]; have hjl := (List.getElem?_eq_some_iff.1 f2).1; simp only [Array.length_toList] at hjl; simp [hjl]
      · rw [List.getElem?_map]; simp
    · rw [hm1]
      intro p hp
      rcases List.mem_or_eq_of_mem_set hp with hp | rfl
      · exact h3 p hp
      · exact hok

/-- 'delete(m, k)'. -/
theorem st_delete {T e : TypeId} {m x : Operand} {b : Nat} {l : List (κ × Value)} {xk : κ} {L' : List HP} [hT : MapT P T k e] (KT' : KT P k kv ok) (hs : Sat w0 w L) (hm : a.eval m = .map (some b))
    (hx : a.eval x = kv xk) (ho : Out (mp kv ok b l) L L') (hok : ok xk)
    (h : ∀ w1, Sat w0 w1 (mp kv ok b (mdel l xk) :: L') → K (a.put dst (.tuple #[])) w1) : Oper.wp P ⟨dst, .call { callee := .builtin .delete, args := #[m, x], argTypes := #[T, k] }, ty, pos, aft, gd⟩ a w K Q := by
  obtain ⟨es, clock, hS, hb, h1, h2, h3⟩ := (hs.out ho).mp_inv
  obtain ⟨lx, hlx⟩ := KT'.key xk hok
  rcases mp_find KT' w h2 h3 hok with ⟨f1, f0, f2⟩ | ⟨j, en, f1, f2, f3, f4⟩
  · have hrun : (Builtin.delete_ #[T, k] ty #[.map (some b), kv xk]).run P w = .ok (.tuple #[]) (ChangeMaps.setBlock w b (.map es clock)) := by
      simp [Builtin.delete_, run_underlying hT.h, MapKept.run_getObj_map hb, KT'.law.check w _ hlx, f1, MapKept.run_setObj_map _ hb, Result.andThen, ChangeMaps.setBlock]
    unfold Oper.wp
    simp [execOp, resolve, invoke, builtin, hm, hx, hrun, Result.andThen]
    exact h _ (Sat.mp_mk hS.setBlk h1 (by rw [mdel_none f2]; exact h2) (by rw [mdel_none f2]; exact h3))
  · have hjs : j < es.size := by have := (List.getElem?_eq_some_iff.1 f2).1; simpa using this
    have hsub : (es.eraseIdxIfInBounds j).toList = es.toList.eraseIdx j := by
      unfold Array.eraseIdxIfInBounds
      rw [dif_pos hjs]
      simp
    have hrun : (Builtin.delete_ #[T, k] ty #[.map (some b), kv xk]).run P w = .ok (.tuple #[]) (ChangeMaps.setBlock w b (.map (es.eraseIdxIfInBounds j) clock)) := by
      simp [Builtin.delete_, run_underlying hT.h, MapKept.run_getObj_map hb, KT'.law.check w _ hlx, f1, MapKept.run_setObj_map _ hb, Result.andThen, ChangeMaps.setBlock]
    have hm1 := mdel_at (mp_nodup h1 h2) f4
    unfold Oper.wp
    simp [execOp, resolve, invoke, builtin, hm, hx, hrun, Result.andThen]
    refine h _ (Sat.mp_mk hS.setBlk (MapKept.stamped_erase h1 j) ?_ ?_)
    · rw [hm1, hsub, map_eraseIdx', h2, map_eraseIdx']
    · rw [hm1]; intro p hp; exact h3 p ((List.eraseIdx_sublist _ _).subset hp)

end
/-! ### Ranging over a map -/
/-- A map in block b, and an iterator over it in block r: what it holds, what is still to come, which entry has come last. -/
def mpi {κ : Type} (kv : κ → Value) (ok : κ → Prop) (b r : Nat) (l left : List (κ × Value)) (cur : Option (κ × Value)) : HP := fun h =>
  ∃ es clock since seen c0, SatH [blk b (.map es clock), blk r (.mapIter (some b) since seen c0)] h ∧ MapKept.Stamped es clock ∧ es.toList.map (fun e => (e.key, e.val)) = l.map (fun p => (kv p.1, p.2)) ∧ (∀ p ∈ l, ok p.1) ∧
    (∀ x ∈ es.toList, x.born < since) ∧ (since ≤ c0 ∧ since ≤ clock) ∧ (leftOf es seen).toList.map (fun e => (e.key, e.val)) = left.map (fun p => (kv p.1, p.2)) ∧
    ∀ p, cur = some p → ∃ e s', e ∈ es.toList ∧ e.key = kv p.1 ∧ e.val = p.2 ∧ seen = Array.push s' e.born ∧ c0 = clock

section
variable {κ : Type} {P : Program} {k : TypeId} {kv : κ → Value} {ok : κ → Prop} {w0 w : World} {L : List HP}
variable {K : Act → World → Prop} {Q : Exit → Act → World → Prop} {a : Act}
variable {dst : Option Tmp} {ty : TypeId} {pos : String} {aft : Array Edge} {gd : Option (Nat × Bool)}

theorem Sat.mpi_inv {b r : Nat} {l left : List (κ × Value)} {cur : Option (κ × Value)} (hs : Sat w0 w (mpi kv ok b r l left cur :: L)) :
    ∃ es clock since seen c0, Sat w0 w (blk r (.mapIter (some b) since seen c0) :: blk b (.map es clock) :: L) ∧ MapKept.Stamped es clock ∧ es.toList.map (fun e => (e.key, e.val)) = l.map (fun p => (kv p.1, p.2)) ∧ (∀ p ∈ l, ok p.1) ∧
      (∀ x ∈ es.toList, x.born < since) ∧ (since ≤ c0 ∧ since ≤ clock) ∧ (leftOf es seen).toList.map (fun e => (e.key, e.val)) = left.map (fun p => (kv p.1, p.2)) ∧
      ∀ p, cur = some p → ∃ e s', e ∈ es.toList ∧ e.key = kv p.1 ∧ e.val = p.2 ∧ seen = Array.push s' e.born ∧ c0 = clock := by
  obtain ⟨h1, h2, ⟨es, clock, since, seen, c0, hS, hr⟩, h3⟩ := hs.heap
  have hh : Sat w0 w (SatH [blk b (.map es clock), blk r (.mapIter (some b) since seen c0)] :: L) := ⟨hs.os, hs.tape, hs.output, h1, h2, hS, h3⟩
  exact ⟨es, clock, since, seen, c0, hh.split.swap, hr⟩

theorem Sat.mpi_mk {b r : Nat} {l left : List (κ × Value)} {cur : Option (κ × Value)} {es : Array MapEntry} {clock since c0 : Nat} {seen : Array Nat} (hs : Sat w0 w (blk r (.mapIter (some b) since seen c0) :: blk b (.map es clock) :: L))
    (h1 : MapKept.Stamped es clock) (h2 : es.toList.map (fun e => (e.key, e.val)) = l.map (fun p => (kv p.1, p.2))) (h3 : ∀ p ∈ l, ok p.1)
    (h4 : ∀ x ∈ es.toList, x.born < since) (h5 : since ≤ c0 ∧ since ≤ clock) (h6 : (leftOf es seen).toList.map (fun e => (e.key, e.val)) = left.map (fun p => (kv p.1, p.2)))
    (h7 : ∀ p, cur = some p → ∃ e s', e ∈ es.toList ∧ e.key = kv p.1 ∧ e.val = p.2 ∧ seen = Array.push s' e.born ∧ c0 = clock) : Sat w0 w (mpi kv ok b r l left cur :: L) := by
  have hh : Sat w0 w (SatH [blk b (.map es clock), blk r (.mapIter (some b) since seen c0)] :: L) := Sat.join (M := [blk b (.map es clock), blk r (.mapIter (some b) since seen c0)]) hs.swap
  exact hh.to_head fun _ hb => ⟨es, clock, since, seen, c0, hb, h1, h2, h3, h4, h5, h6, h7⟩

/-- Behind the loop. -/
theorem Sat.mpi_end {b r : Nat} {l left : List (κ × Value)} {cur : Option (κ × Value)} (hs : Sat w0 w (mpi kv ok b r l left cur :: L)) : Sat w0 w (mp kv ok b l :: L) := by
  obtain ⟨es, clock, since, seen, c0, h0, h1, h2, h3, _⟩ := hs.mpi_inv
  exact Sat.mp_mk h0.tail h1 h2 h3

/-- 'range m'. -/
theorem st_range {T e : TypeId} {m : Operand} {b : Nat} {l : List (κ × Value)} {L' : List HP} [hT : MapT P T k e] (hs : Sat w0 w L) (hm : a.eval m = .map (some b)) (ho : Out (mp kv ok b l) L L')
    (h : ∀ r w1, Sat w0 w1 (mpi kv ok b r l l none :: L') → K (a.put dst (.pointer (some ⟨r, 0, none⟩))) w1) : Oper.wp P ⟨dst, .range T m, ty, pos, aft, gd⟩ a w K Q := by
  obtain ⟨es, clock, hS, hb, h1, h2, h3⟩ := (hs.out ho).mp_inv
  refine st_do rfl (v := .pointer (some ⟨w.heap.size, 0, none⟩)) (w' := w.alloc (.mapIter (some b) clock #[] clock)) ?_ (h _ _ (Sat.mpi_mk (hS.alloc _) h1 h2 h3 h1.1 ⟨Nat.le_refl _, Nat.le_refl _⟩ ?_ ?_))
  · simp [execOp, Instr.range, hm, run_underlying hT.h, MapKept.run_getObj_map hb, Result.andThen]
  · have : leftOf es #[] = es := by unfold leftOf; simp
    rw [this]; exact h2
  · intro p hp; cases hp

theorem st_next_done {it : Operand} {b r : Nat} {l : List (κ × Value)} {cur : Option (κ × Value)} {L' : List HP} (hs : Sat w0 w L) (hi : a.eval it = .pointer (some ⟨r, 0, none⟩)) (ho : Out (mpi kv ok b r l [] cur) L L')
    (h : K (a.put dst (.tuple #[.bool false])) w) : Oper.wp P ⟨dst, .next it false, ty, pos, aft, gd⟩ a w K Q := by
  obtain ⟨es, clock, since, seen, c0, h0, h1, h2, h3, h4, h5, h6, _⟩ := (hs.out ho).mpi_inv
  have hr := h0.get (.here _)
  have hb := h0.get (.there _ _ _ (.here _))
  rcases run_next_at (P := P) w ty r b since c0 seen es clock hr hb h4 h5.1 with ⟨_, hrun⟩ | ⟨e, he, _⟩
  · refine st_do rfl (v := .tuple #[.bool false]) (w' := w) ?_ h
    simp [execOp, hi, hrun, Result.andThen]
  · have : (leftOf es seen).toList = [] := by simpa using h6
    rw [this] at he; cases he

theorem filter_eraseIdx {α : Type} {p : α → Bool} : ∀ {l : List α} {j : Nat} {x : α}, l[j]? = some x → p x = false → (l.eraseIdx j).filter p = l.filter p
  | [], _, _, h, _ => by simp at h
  | y :: l, 0, x, h, hp => by simp at h; subst h; simp [hp]
  | y :: l, j + 1, x, h, hp => by
    have h1 : l[j]? = some x := by simpa using h
    simp only [List.eraseIdx_cons_succ, List.filter_cons, filter_eraseIdx h1 hp]

theorem entry_of_born {es : Array MapEntry} {clock : Nat} (h : MapKept.Stamped es clock) {x y : MapEntry} (hx : x ∈ es.toList) (hy : y ∈ es.toList) (e : x.born = y.born) : x = y := by
  obtain ⟨i, hi⟩ := List.mem_iff_getElem?.1 hx
  obtain ⟨j, hj⟩ := List.mem_iff_getElem?.1 hy
  have h1 : (es.toList.map (·.born))[i]? = some x.born := by rw [List.getElem?_map, hi]; rfl
  have h2 : (es.toList.map (·.born))[j]? = some x.born := by rw [List.getElem?_map, hj, e]; rfl
  have hij := (List.getElem?_inj (List.getElem?_eq_some_iff.1 h1).1 h.2.1).1 (h1.trans h2.symm)
  subst hij
  rw [hi] at hj; cases hj; rfl

theorem entry_of_key {es : Array MapEntry} {clock : Nat} (h : MapKept.Stamped es clock) {x y : MapEntry} (hx : x ∈ es.toList) (hy : y ∈ es.toList) (e : x.key = y.key) : x = y := by
  obtain ⟨i, hi⟩ := List.mem_iff_getElem?.1 hx
  obtain ⟨j, hj⟩ := List.mem_iff_getElem?.1 hy
  have h1 : (es.toList.map (·.key))[i]? = some x.key := by rw [List.getElem?_map, hi]; rfl
  have h2 : (es.toList.map (·.key))[j]? = some x.key := by rw [List.getElem?_map, hj, e]; rfl
  have hij := (List.getElem?_inj (List.getElem?_eq_some_iff.1 h1).1 h.2.2).1 (h1.trans h2.symm)
  subst hij
  rw [hi] at hj; cases hj; rfl

theorem filter_map_eq {α β γ : Type} {f : α → γ} {g : β → γ} {p : α → Bool} {q : β → Bool} : ∀ {A : List α} {B : List β}, (∀ x ∈ A, ∀ y, f x = g y → p x = q y) → A.map f = B.map g → (A.filter p).map f = (B.filter q).map g
  | [], [], _, _ => rfl
  | [], _ :: _, _, h => by simp at h
  | _ :: _, [], _, h => by simp at h
  | x :: A, y :: B, hp, h => by
    simp only [List.map_cons, List.cons.injEq] at h
    have h1 := hp x (by simp) y h.1
    have ih := filter_map_eq (fun z hz => hp z (by simp [hz])) h.2
    simp only [List.filter_cons]
    rw [h1]
    split
    · simp only [List.map_cons, h.1, ih]
    · exact ih
end

section
variable {κ : Type} [DecidableEq κ] {P : Program} {k : TypeId} {kv : κ → Value} {ok : κ → Prop} {w0 w : World} {L : List HP}
variable {K : Act → World → Prop} {Q : Exit → Act → World → Prop} {a : Act}
variable {dst : Option Tmp} {ty : TypeId} {pos : String} {aft : Array Edge} {gd : Option (Nat × Bool)}

theorem st_next_more {it : Operand} {b r : Nat} {l left : List (κ × Value)} {cur : Option (κ × Value)} {L' : List HP} (KT' : KT P k kv ok) (hs : Sat w0 w L) (hi : a.eval it = .pointer (some ⟨r, 0, none⟩)) (ho : Out (mpi kv ok b r l left cur) L L') (hl : left ≠ [])
    (h : ∀ x v w1, (x, v) ∈ left → (x, v) ∈ l → Sat w0 w1 (mpi kv ok b r l (mdel left x) (some (x, v)) :: L') → K (a.put dst (.tuple #[.bool true, kv x, v])) w1) : Oper.wp P ⟨dst, .next it false, ty, pos, aft, gd⟩ a w K Q := by
  obtain ⟨es, clock, since, seen, c0, h0, h1, h2, h3, h4, h5, h6, _⟩ := (hs.out ho).mpi_inv
  have hr := h0.get (.here _)
  have hb := h0.get (.there _ _ _ (.here _))
  rcases run_next_at (P := P) w ty r b since c0 seen es clock hr hb h4 h5.1 with ⟨hz, _⟩ | ⟨e, he, w1, hw1, hrun⟩
  · exact absurd (by have := congrArg List.length h6; simp only [List.length_map, Array.length_toList] at this; exact List.eq_nil_of_length_eq_zero (by omega)) hl
  · have h8 : (e.key, e.val) ∈ left.map (fun p => (kv p.1, p.2)) := by rw [← h6]; exact List.mem_map.2 ⟨e, he, rfl⟩
    obtain ⟨⟨x, v⟩, hp, h9⟩ := List.mem_map.1 h8
    simp only [Prod.mk.injEq] at h9
    obtain ⟨hk, hv⟩ := h9
    have hes : e ∈ es.toList := by unfold leftOf at he; simp at he ⊢; exact he.1
    have hpl : (x, v) ∈ l := by
      have h10 : (e.key, e.val) ∈ l.map (fun p => (kv p.1, p.2)) := by rw [← h2]; exact List.mem_map.2 ⟨e, hes, rfl⟩
      obtain ⟨⟨x', v'⟩, hp', h11⟩ := List.mem_map.1 h10
      simp only [Prod.mk.injEq] at h11
      have := KT'.inj _ _ (h11.1.trans hk.symm)
      subst this
      rw [hv, ← h11.2]; exact hp'
    have hw : Sat w0 w1 (blk r (.mapIter (some b) since seen c0) :: blk b (.map es clock) :: L') := by
      rcases hw1 with rfl | rfl
      · exact h0
      · exact h0.drew
    refine st_do rfl (v := .tuple #[.bool true, e.key, e.val]) (w' := ChangeMaps.setBlock w1 r (.mapIter (some b) since (seen.push e.born) clock)) ?_ ?_
    · simp [execOp, hi, hrun, Result.andThen]
    · rw [← hk, ← hv]
      refine h x v _ hp hpl (Sat.mpi_mk hw.setBlk h1 h2 h3 h4 ⟨h5.2, h5.2⟩ ?_ ?_)
      · have e1 : (leftOf es (seen.push e.born)).toList = (leftOf es seen).toList.filter (fun y => y.born != e.born) := by
          unfold leftOf
          simp only [Array.toList_filter, List.filter_filter]
          apply List.filter_congr
          intro y _
          simp [Bool.and_comm]
          rw [Bool.eq_iff_iff]; simp
        rw [e1]
        refine filter_map_eq (fun y hy p hyp => ?_) h6
        have hye : y ∈ es.toList := by unfold leftOf at hy; simp at hy ⊢; exact hy.1
        simp only [Prod.mk.injEq] at hyp
        have e2 : y.born = e.born ↔ p.1 = x := by
          constructor
          · intro hb2
            have : y = e := entry_of_born h1 hye hes hb2
            subst this
            exact KT'.inj _ _ (hyp.1.symm.trans hk.symm)
          · intro hx2
            have : y = e := entry_of_key h1 hye hes (by rw [hyp.1, hx2, hk])
            rw [this]
        by_cases hc : p.1 = x
        · simp [hc, e2.2 hc]
        · have : y.born ≠ e.born := fun e3 => hc (e2.1 e3)
          simp [hc, this]
      · intro p hp2
        cases hp2
        exact ⟨e, seen, hes, hk.symm, hv.symm, rfl, rfl⟩

/-- 'delete(m, k)' while the map is ranged over. -/
theorem st_delete_mpi {T e : TypeId} {m x : Operand} {b r : Nat} {l left : List (κ × Value)} {cur : Option (κ × Value)} {xk : κ} {L' : List HP} [hT : MapT P T k e] (KT' : KT P k kv ok) (hs : Sat w0 w L) (hm : a.eval m = .map (some b))
    (hx : a.eval x = kv xk) (ho : Out (mpi kv ok b r l left cur) L L') (hok : ok xk) (hnot : ∀ p ∈ left, p.1 ≠ xk)
    (h : ∀ w1, Sat w0 w1 (mpi kv ok b r (mdel l xk) left none :: L') → K (a.put dst (.tuple #[])) w1) : Oper.wp P ⟨dst, .call { callee := .builtin .delete, args := #[m, x], argTypes := #[T, k] }, ty, pos, aft, gd⟩ a w K Q := by
  obtain ⟨es, clock, since, seen, c0, h0, h1, h2, h3, h4, h5, h6, _⟩ := (hs.out ho).mpi_inv
  have hb := h0.get (.there _ _ _ (.here _))
  obtain ⟨lx, hlx⟩ := KT'.key xk hok
  rcases mp_find KT' w h2 h3 hok with ⟨f1, f0, f2⟩ | ⟨j, en, f1, f2, f3, f4⟩
  · have hrun : (Builtin.delete_ #[T, k] ty #[.map (some b), kv xk]).run P w = .ok (.tuple #[]) (ChangeMaps.setBlock w b (.map es clock)) := by
      simp [Builtin.delete_, run_underlying hT.h, MapKept.run_getObj_map hb, KT'.law.check w _ hlx, f1, MapKept.run_setObj_map _ hb, Result.andThen, ChangeMaps.setBlock]
    unfold Oper.wp
    simp [execOp, resolve, invoke, builtin, hm, hx, hrun, Result.andThen]
    exact h _ (Sat.mpi_mk h0.swap.setBlk.swap h1 (by rw [mdel_none f2]; exact h2) (by rw [mdel_none f2]; exact h3) h4 h5 h6 (fun p hp => by cases hp))
  · have hjs : j < es.size := by have := (List.getElem?_eq_some_iff.1 f2).1; simpa using this
    have hsub : (es.eraseIdxIfInBounds j).toList = es.toList.eraseIdx j := by
      unfold Array.eraseIdxIfInBounds
      rw [dif_pos hjs]
      simp
    have hrun : (Builtin.delete_ #[T, k] ty #[.map (some b), kv xk]).run P w = .ok (.tuple #[]) (ChangeMaps.setBlock w b (.map (es.eraseIdxIfInBounds j) clock)) := by
      simp [Builtin.delete_, run_underlying hT.h, MapKept.run_getObj_map hb, KT'.law.check w _ hlx, f1, MapKept.run_setObj_map _ hb, Result.andThen, ChangeMaps.setBlock]
    have hm1 := mdel_at (mp_nodup h1 h2) f4
    unfold Oper.wp
    simp [execOp, resolve, invoke, builtin, hm, hx, hrun, Result.andThen]
    refine h _ (Sat.mpi_mk h0.swap.setBlk.swap (MapKept.stamped_erase h1 j) ?_ ?_ ?_ h5 ?_ (fun p hp => by cases hp))
    · rw [hm1, hsub, map_eraseIdx', h2, map_eraseIdx']
    · rw [hm1]; intro p hp; exact h3 p ((List.eraseIdx_sublist _ _).subset hp)
    · intro y hy; rw [hsub] at hy; exact h4 y ((List.eraseIdx_sublist _ _).subset hy)
    · rw [← h6]
      have hnl : en ∉ (leftOf es seen).toList := fun hin => by
        have h8 : (en.key, en.val) ∈ left.map (fun p => (kv p.1, p.2)) := by rw [← h6]; exact List.mem_map.2 ⟨en, hin, rfl⟩
        obtain ⟨p, hp, h9⟩ := List.mem_map.1 h8
        simp only [Prod.mk.injEq] at h9
        exact hnot p hp (KT'.inj _ _ (h9.1.trans f3))
      congr 1
      unfold leftOf at hnl ⊢
      simp only [Array.toList_filter] at hnl ⊢
      rw [hsub]
      exact filter_eraseIdx f2 (by
        by_cases hc : seen.contains en.born = true
        · rw [hc]; rfl
        · exfalso
          apply hnl
          rw [List.mem_filter]
          exact ⟨List.mem_of_getElem? f2, by simpa using hc⟩)
end

section
variable {κ : Type} {P : Program} {kv : κ → Value} {ok : κ → Prop} {w0 w : World} {L : List HP} {a : Act}
variable {dst : Option Tmp} {ty : TypeId} {pos : String} {aft : Array Edge} {gd : Option (Nat × Bool)}
/-- The round's key and element. -/
theorem yl_entry {it : Operand} {b r : Nat} {l left : List (κ × Value)} {x : κ} {v : Value} {L' : List HP} (hs : Sat w0 w L) (hi : a.eval it = .pointer (some ⟨r, 0, none⟩)) (ho : Out (mpi kv ok b r l left (some (x, v))) L L') :
    (execOp a.eval ⟨dst, .entry it, ty, pos, aft, gd⟩).run P w = .ok (.value (.tuple #[kv x, v])) w := by
  obtain ⟨es, clock, since, seen, c0, h0, h1, h2, h3, h4, h5, h6, h7⟩ := (hs.out ho).mpi_inv
  obtain ⟨e, s', he, hk, hv, rfl, rfl⟩ := h7 _ rfl
  have hr := h0.get (.here _)
  have hb := h0.get (.there _ _ _ (.here _))
  have hrun := run_entry_at (P := P) w r b since s' es c0 e hr hb he h1.2.1
  simp only at hk hv
  simp [execOp, hi, hrun, Result.andThen, hk, hv]
end
#print axioms yl_entry
end Sl

/-
  Windows of slices of structs: 's[:k]', 's[k:]'. No Go program in it.
-/
namespace Sl
open Go Go.RowKit

theorem rd_win {w0 : World} {L : List HP} {A : Option Addr} {n c l h sz : Nat} {xs : List Value} (h1 : l ≤ h) (h2 : h ≤ n) (h3 : n ≤ c) (hr : Rd w0 L A n sz xs) : Rd w0 L (if c = l then A else A.map (·.add (l * sz))) (h - l) sz ((xs.drop (l * sz)).take ((h - l) * sz)) := by
  intro w hs
  have r := hr w hs
  have e1 : h * sz ≤ n * sz := Nat.mul_le_mul_right _ h2
  have e2 : (h - l) * sz + l * sz = h * sz := by rw [← Nat.add_mul, Nat.sub_add_cancel h1]
  have hlen : ((xs.drop (l * sz)).take ((h - l) * sz)).length = (h - l) * sz := by
    rw [List.length_take, List.length_drop, r.len]; omega
  refine ⟨hlen, ?_, ?_⟩
  · intro e
    have : A = none := by
      split at e
      · exact e
      · cases A with
        | none => rfl
        | some a => cases e
    have := r.nil this
    omega
  · intro a e j u hu
    have hj : j < (h - l) * sz := by have := (List.getElem?_eq_some_iff.1 hu).1; omega
    have hne : ¬ c = l := by
      intro e
      have : h - l = 0 := by omega
      rw [this, Nat.zero_mul] at hj
      omega
    rw [if_neg hne] at e
    cases A with
    | none => cases e
    | some b =>
      cases e
      rw [List.getElem?_take, if_pos hj, List.getElem?_drop] at hu
      obtain ⟨g1, g2⟩ := r.cell b rfl _ _ hu
      show (b.add (l * sz)).spot = none ∧ w.cell? ⟨(b.add (l * sz)).block, (b.add (l * sz)).off + j, none⟩ = some u
      rw [addr_add b g1]
      exact ⟨rfl, by simpa [Nat.add_assoc] using g2⟩

theorem SlV.win {α : Type} {f : IsV α} {sz : Nat} {w0 : World} {L : List HP} {A : Option Addr} {n c : Nat} {xs : List α} (l h : Nat) (h1 : l ≤ h) (h2 : h ≤ xs.length) (h3 : xs.length ≤ c) (hn : ((xs.drop l).take (h - l)).length = n)
    (H : SlV f sz (Rd w0 L) [.slice A xs.length c] xs) : SlV f sz (Rd w0 L) [.slice (if c = l then A else A.map (·.add (l * sz))) n (c - l)] ((xs.drop l).take (h - l)) := by
  obtain ⟨A', c', vs, e, hr, hl, hx⟩ := H
  simp only [List.cons.injEq, Value.slice.injEq, and_true, true_and] at e
  obtain ⟨rfl, rfl⟩ := e
  have hn' : n = h - l := by rw [← hn]; simp; omega
  have e1 : h * sz ≤ xs.length * sz := Nat.mul_le_mul_right _ h2
  have e2 : (h - l) * sz + l * sz = h * sz := by rw [← Nat.add_mul, Nat.sub_add_cancel h1]
  refine ⟨_, _, (vs.drop (l * sz)).take ((h - l) * sz), by rw [hn], ?_, ?_, ?_⟩
  · rw [hn, hn']; exact rd_win h1 h2 h3 hr
  · rw [hn, hn', List.length_take, List.length_drop, hl]; omega
  · intro i x hi
    have hil : i < h - l := by have := (List.getElem?_eq_some_iff.1 hi).1; omega
    have h5 : xs[l + i]? = some x := by
      rw [List.getElem?_take, if_pos hil, List.getElem?_drop] at hi; exact hi
    have h6 := hx _ _ h5
    have e3 : (i + 1) * sz ≤ (h - l) * sz := Nat.mul_le_mul_right _ hil
    rw [Nat.add_mul, Nat.one_mul] at e3
    rw [show ((((vs.drop (l * sz)).take ((h - l) * sz)).drop (i * sz)).take sz) = (vs.drop ((l + i) * sz)).take sz from ?_]
    · exact h6
    · rw [List.drop_take, List.take_take, List.drop_drop, Nat.add_mul]
      rw [show min sz ((h - l) * sz - i * sz) = sz from by omega]

theorem SlV.take {α : Type} {f : IsV α} {sz : Nat} {w0 : World} {L : List HP} {A : Option Addr} {n c : Nat} {xs : List α} (k : Nat) (h2 : k ≤ xs.length) (h3 : xs.length ≤ c) (hn : (xs.take k).length = n)
    (H : SlV f sz (Rd w0 L) [.slice A xs.length c] xs) : SlV f sz (Rd w0 L) [.slice (if c = 0 then A else A.map (·.add (0 * sz))) n c] (xs.take k) := by
  have := SlV.win (n := n) 0 k (Nat.zero_le _) h2 h3 (by simpa using hn) H
  simpa using this

theorem SlV.drop {α : Type} {f : IsV α} {sz : Nat} {w0 : World} {L : List HP} {A : Option Addr} {n c : Nat} {xs : List α} (l : Nat) (h2 : l ≤ xs.length) (h3 : xs.length ≤ c) (hn : (xs.drop l).length = n)
    (H : SlV f sz (Rd w0 L) [.slice A xs.length c] xs) : SlV f sz (Rd w0 L) [.slice (if c = l then A else A.map (·.add (l * sz))) n (c - l)] (xs.drop l) := by
  have e : (xs.drop l).take (xs.length - l) = xs.drop l := List.take_of_length_le (by simp)
  have := SlV.win (n := n) l xs.length h2 (Nat.le_refl _) h3 (by rw [e]; exact hn) H
  rwa [e] at this

section
variable {P : Program} {K : Act → World → Prop} {Q : Exit → Act → World → Prop} {a : Act} {w0 w : World} {L M : List HP}
variable {dst : Option Tmp} {ty : TypeId} {pos : String} {aft : Array Edge} {gd : Option (Nat × Bool)}
theorem yl_sliceLo {T E : TypeId} {z : Value} {sz by_ : Nat} {x lo : Operand} {A : Option Addr} {n c : Nat} {li : Int} {v : Value} [hT : SlT P T E] [hi : Inf P E z sz by_] (l : Nat) (hx : a.eval x = .slice A n c) (hl' : a.eval lo = .int .i64 li) (hli : li = (l : Int)) (h1 : l ≤ n)
    (hv : Value.slice (if c = l then A else A.map (·.add (l * sz))) (n - l) (c - l) = v) : (execOp a.eval ⟨dst, .slice T x (some lo) none none, ty, pos, aft, gd⟩).run P w = .ok (.value v) w := by
  have hl : a.eval lo = .int .i64 l := by rw [hl', hli]
  obtain ⟨i, g1, g2, g3, g4, g5⟩ := hi.h
  subst hv
  have e1 : (0 : Int) ≤ (l : Int) ∧ (l : Int) ≤ (n : Int) := by omega
  simp [execOp, hx, hl, Instr.sliceAt, Instr.slice, Instr.sliceBounds, Instr.sliceBound, asIntOf, run_underlying hT.h, Go.sizeOf, typeInfo, g1, g3, e1]
  intro h; omega

theorem yl_sliceHi {T E : TypeId} {z : Value} {sz by_ : Nat} {x hi' : Operand} {A : Option Addr} {n c : Nat} {ki : Int} {v : Value} [hT : SlT P T E] [hi : Inf P E z sz by_] (k : Nat) (hx : a.eval x = .slice A n c) (hl' : a.eval hi' = .int .i64 ki) (hki : ki = (k : Int)) (h1 : k ≤ n) (h2 : n ≤ c)
    (hv : Value.slice (if c = 0 then A else A.map (·.add (0 * sz))) k c = v) : (execOp a.eval ⟨dst, .slice T x none (some hi') none, ty, pos, aft, gd⟩).run P w = .ok (.value v) w := by
  have hl : a.eval hi' = .int .i64 k := by rw [hl', hki]
  obtain ⟨i, g1, g2, g3, g4, g5⟩ := hi.h
  subst hv
  have e1 : (0 : Int) ≤ (k : Int) ∧ (k : Int) ≤ (c : Int) := by omega
  simp [execOp, hx, hl, Instr.sliceAt, Instr.slice, Instr.sliceBounds, Instr.sliceBound, asIntOf, run_underlying hT.h, Go.sizeOf, typeInfo, g1, e1]
  intro h; omega
end
end Sl
