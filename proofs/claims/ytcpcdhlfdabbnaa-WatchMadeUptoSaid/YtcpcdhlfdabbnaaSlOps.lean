/-
  The rules of the separation logic for the operations that touch memory. No Go program in it.
-/
import Derived.Test.YtcpcdhlfdabbnaaSl
import Derived.Laws.AppendOwn
import Derived.Laws.Tables
namespace Sl
open Go Go.RowKit

/-! ### What the rules ask of types -/
class Scal (P : Program) (T : TypeId) : Prop where
  h : ∃ d, P.underlying T = some d ∧ d.isRow = false

class AggT (P : Program) (T : TypeId) (n : outParam Nat) : Prop where
  h : (∃ d, P.underlying T = some d ∧ d.isRow = true) ∧ (P.info? T).map (·.size) = some n

class SlT (P : Program) (T : TypeId) (E : outParam TypeId) : Prop where
  h : P.underlying T = some (.slice E)

class StrT (P : Program) (T : TypeId) : Prop where
  h : P.underlying T = some .string

class U8T (P : Program) (T : TypeId) : Prop where
  h : P.underlying T = some (.int .u8)

class Inf (P : Program) (E : TypeId) (z : outParam Value) (sz by_ : outParam Nat) : Prop where
  h : ∃ i, P.info? E = some i ∧ i.zero = some z ∧ i.size = sz ∧ i.bytes = by_ ∧ z.cells.size = sz

theorem Inf.of {P : Program} {E : TypeId} {z : Value} {sz by_ : Nat} (h : (P.info? E).map (fun i => (i.zero, i.size, i.bytes)) = some (some z, sz, by_)) (hz : z.cells.size = sz) : Inf P E z sz by_ := by
  cases hq : P.info? E with
  | none => simp [hq] at h
  | some i => simp [hq] at h; exact ⟨i, hq, h.1, h.2.1, h.2.2, hz⟩

/-! ### Reading -/
/-- The slice value reads as the cells xs (n elements of sz cells). -/
structure Reads (w : World) (A : Option Addr) (n : Nat) (sz : Nat) (xs : List Value) : Prop where
  len : xs.length = n * sz
  nil : A = none → n = 0
  cell : ∀ a, A = some a → ∀ j u, xs[j]? = some u → a.spot = none ∧ w.cell? ⟨a.block, a.off + j, none⟩ = some u

/-- In every world of which L is known the slice reads as xs. -/
def Rd (w0 : World) (L : List HP) (A : Option Addr) (n : Nat) (sz : Nat) (xs : List Value) : Prop := ∀ w, Sat w0 w L → Reads w A n sz xs
/-- In every world of which L is known the cell holds v. -/
def Cl (w0 : World) (L : List HP) (a : Addr) (v : Value) : Prop := ∀ w, Sat w0 w L → w.cell? a = some v

theorem Rd.cons {w0 : World} {p : HP} {L : List HP} {A n sz xs} (h : Rd w0 L A n sz xs) : Rd w0 (p :: L) A n sz xs := fun w hs => h w hs.tail
theorem Cl.cons {w0 : World} {p : HP} {L : List HP} {a v} (h : Cl w0 L a v) : Cl w0 (p :: L) a v := fun w hs => h w hs.tail

theorem addr_add (a : Addr) (h : a.spot = none) (j : Nat) : a.add j = ⟨a.block, a.off + j, none⟩ := by
  obtain ⟨b, o, s⟩ := a; cases h; exact Addr.add_mid b o j

theorem Reads.add {w : World} {a : Addr} {n sz : Nat} {xs : List Value} (h : Reads w (some a) n sz xs) : ∀ j u, xs[j]? = some u → w.cell? (a.add j) = some u := by
  intro j u hu; obtain ⟨h1, h2⟩ := h.cell a rfl j u hu; rw [addr_add a h1]; exact h2

theorem Rd.elt {w0 : World} {L : List HP} {b off n : Nat} {xs : List Value} {k : Nat} {u : Value} (h : Rd w0 L (some ⟨b, off, none⟩) n 1 xs) (hu : xs[k]? = some u) : Cl w0 L ⟨b, off + k, none⟩ u :=
  fun w hs => ((h w hs).cell _ rfl k u hu).2

/-- A slice that the holder of the resource may grow and write: n elements of sz cells at the head of a block of its own, or nil. -/
def own (E : TypeId) (sz : Nat) (A : Option Addr) (c n : Nat) (xs : List Value) : HP := fun h =>
  xs.length = n * sz ∧ ((A = none ∧ n = 0 ∧ c = 0) ∨
    ∃ g cur, A = some ⟨g, 0, none⟩ ∧ h g = some (.cells cur E (0, 0)) ∧ n ≤ c ∧ c ≤ maxLen ∧ cur.size = c * sz ∧ cur.toList.take (n * sz) = xs)

theorem own_nil (E : TypeId) (sz : Nat) (h : Hl) : own E sz none 0 0 [] h := ⟨by simp, .inl ⟨rfl, rfl, rfl⟩⟩

theorem SatH.nil_cons {L : List HP} {h : Hl} {p : HP} (hp : p (fun _ => none)) (H : SatH L h) : SatH (p :: L) h :=
  ⟨fun _ => none, h, hp, H, fun _ _ _ e => (by cases e), fun _ _ e => (by cases e), Hl.le_refl _⟩

theorem Sat.own_nil {w0 w : World} {L : List HP} (h : Sat w0 w L) (E : TypeId) (sz : Nat) : Sat w0 w (own E sz none 0 0 [] :: L) := h.map fun _ H => SatH.nil_cons (Sl.own_nil E sz _) H

theorem Sat.own_inv {w0 w : World} {L : List HP} {E sz A c n xs} (h : Sat w0 w (own E sz A c n xs :: L)) :
    xs.length = n * sz ∧ ((A = none ∧ n = 0 ∧ c = 0) ∨ ∃ g cur, A = some ⟨g, 0, none⟩ ∧ Sat w0 w (blk g (.cells cur E (0, 0)) :: L) ∧ n ≤ c ∧ c ≤ maxLen ∧ cur.size = c * sz ∧ cur.toList.take (n * sz) = xs) := by
  obtain ⟨a, b, ⟨hl, hc⟩, h2⟩ := h.heap
  refine ⟨hl, ?_⟩
  rcases hc with hc | ⟨g, cur, hA, hg, h3, h4, h5, h6⟩
  · exact .inl hc
  · exact .inr ⟨g, cur, hA, ⟨h.os, h.tape, h.output, a, b, hg, h2⟩, h3, h4, h5, h6⟩

theorem Sat.own_cap {w0 w : World} {L : List HP} {E sz A c n xs} (h : Sat w0 w (own E sz A c n xs :: L)) : n ≤ c := by
  obtain ⟨_, ⟨_, h0, h1⟩ | ⟨g, _, _, _, h2, _⟩⟩ := h.own_inv <;> omega

theorem Sat.own_some {w0 w : World} {L : List HP} {E sz A c n xs} (h : Sat w0 w (own E sz A c n xs :: L)) (hn : 0 < n) : ∃ g, A = some ⟨g, 0, none⟩ := by
  obtain ⟨_, ⟨_, h0, _⟩ | ⟨g, _, h1, _⟩⟩ := h.own_inv
  · omega
  · exact ⟨g, h1⟩

theorem Sat.own_elim {w0 w : World} {L : List HP} {E sz A c n xs} (h : Sat w0 w (own E sz A c n xs :: L)) {G : Prop} (hn : 0 < n) (k : ∀ g, A = some ⟨g, 0, none⟩ → G) : G := by
  obtain ⟨g, hg⟩ := h.own_some hn
  exact k g hg

theorem Sat.own_mk {w0 w : World} {L : List HP} {E sz c n xs g cur} (h : Sat w0 w (blk g (.cells cur E (0, 0)) :: L)) (hx : xs.length = n * sz) (h3 : n ≤ c) (h4 : c ≤ maxLen) (h5 : cur.size = c * sz) (h6 : cur.toList.take (n * sz) = xs) :
    Sat w0 w (own E sz (some ⟨g, 0, none⟩) c n xs :: L) := h.to_head fun _ hb => ⟨hx, .inr ⟨g, cur, rfl, hb, h3, h4, h5, h6⟩⟩

theorem own_len {w0 w : World} {L : List HP} {E sz A c n xs} (h : Sat w0 w (own E sz A c n xs :: L)) : xs.length = n * sz := h.own_inv.1

/-- Its first k elements read. -/
theorem Rd.own_take {w0 : World} {L : List HP} {E sz A c n xs} (k : Nat) (hk : k ≤ n) : Rd w0 (own E sz A c n xs :: L) A k sz (xs.take (k * sz)) := by
  intro w hs
  obtain ⟨hx, hc⟩ := hs.own_inv
  have hks : k * sz ≤ n * sz := Nat.mul_le_mul_right _ hk
  refine ⟨by rw [List.length_take, hx]; omega, ?_, ?_⟩
  · rintro rfl
    rcases hc with ⟨_, h, _⟩ | ⟨g, cur, e, _⟩
    · omega
    · cases e
  · rintro a rfl
    rcases hc with ⟨e, _⟩ | ⟨g, cur, e, hb, h3, h4, h5, h6⟩
    · cases e
    · cases e
      refine fun j u hu => ⟨rfl, ?_⟩
      have hg := hb.get (.here _)
      rw [List.getElem?_take] at hu
      split at hu
      · rw [← h6, List.getElem?_take] at hu
        split at hu
        · simpa [World.cell?, hg] using hu
        · cases hu
      · cases hu

theorem Rd.own {w0 : World} {L : List HP} {E sz A c n xs} : Rd w0 (own E sz A c n xs :: L) A n sz xs := by
  intro w hs
  have hl := own_len hs
  have h := Rd.own_take (w0 := w0) (L := L) (E := E) (sz := sz) (A := A) (c := c) (xs := xs) n (Nat.le_refl _) w hs
  rwa [List.take_of_length_le (by omega)] at h

theorem Rd.blk {w0 : World} {L : List HP} {b : Nat} {cur : Array Value} {E : TypeId} {fr : Nat × Nat} {off n sz : Nat} (h : off + n * sz ≤ cur.size) :
    Rd w0 (blk b (.cells cur E fr) :: L) (some ⟨b, off, none⟩) n sz ((cur.toList.drop off).take (n * sz)) := by
  intro w hs
  refine ⟨by simp; omega, fun e => (by cases e), ?_⟩
  intro a e; cases e
  refine fun j u hu => ⟨rfl, ?_⟩
  have hg := hs.get (.here _)
  rw [List.getElem?_take] at hu
  split at hu
  · rw [List.getElem?_drop] at hu
    simpa [World.cell?, hg] using hu
  · cases hu

theorem Rd.row {w0 : World} {L : List HP} {b : Nat} {vs : List Value} {E : TypeId} {fr : Nat × Nat} {n : Nat} (h : vs.length = n) :
    Rd w0 (Sl.blk b (.cells vs.toArray E fr) :: L) (some ⟨b, 0, Option.none⟩) n 1 vs := by
  subst h
  have := Rd.blk (w0 := w0) (L := L) (b := b) (cur := vs.toArray) (E := E) (fr := fr) (off := 0) (n := vs.length) (sz := 1) (by simp)
  simpa using this

theorem Rd.some_of {w0 w : World} {L : List HP} {A n sz xs} (h : Rd w0 L A n sz xs) (hs : Sat w0 w L) (hn : 0 < n) (hz : 0 < sz := by omega) : ∃ b off, A = some ⟨b, off, Option.none⟩ := by
  cases A with
  | none => have := (h w hs).nil rfl; omega
  | some a =>
    obtain ⟨b, off, sp⟩ := a
    have hl := (h w hs).len
    have hp : 0 < xs.length := by rw [hl]; exact Nat.mul_pos hn hz
    have := ((h w hs).cell _ rfl 0 _ (List.getElem?_eq_getElem hp)).1
    cases this
    exact ⟨b, off, rfl⟩

theorem Rd.len {w0 w : World} {L : List HP} {A n sz xs} (h : Rd w0 L A n sz xs) (hs : Sat w0 w L) : xs.length = n * sz := (h w hs).len

theorem Rd.nil {w0 : World} {L : List HP} {sz : Nat} : Rd w0 L none 0 sz [] := fun _ _ => ⟨by simp, fun _ => rfl, fun _ e => by cases e⟩

theorem Rd.zero {w0 : World} {L : List HP} {sz : Nat} {b off : Nat} : Rd w0 L (some ⟨b, off, none⟩) 0 sz [] := fun _ _ => ⟨by simp, fun _ => rfl, fun a e => by cases e; exact fun j u hu => by cases hu⟩

theorem Cl.blk {w0 : World} {L : List HP} {b : Nat} {cur : Array Value} {E : TypeId} {fr : Nat × Nat} {off : Nat} {v : Value} (h : cur[off]? = some v) : Cl w0 (blk b (.cells cur E fr) :: L) ⟨b, off, none⟩ v := by
  intro w hs
  have hg := hs.get (.here _)
  simp [World.cell?, hg, h]

/-! ### The operations -/
section
variable {P : Program} {ops : Array Oper} {Q : Exit → Act → World → Prop} {rest : List Oper} {a : Act} {w0 w : World} {L : List HP}
variable {dst : Option Tmp} {ty : TypeId} {pos : String} {aft : Array Edge}

/-- An operation that runs to a value. -/
theorem wl_do {o : Oper} (hg : o.guard = none) {v : Value} {w' : World} (hr : (execOp a.eval o).run P w = .ok (.value v) w') (h : wpList P ops Q rest (a.put o.dst v) w') : wpList P ops Q (o :: rest) a w :=
  wpList_plain hg fun K hK => by unfold Oper.wp; rw [hr]; exact hK _ _ h

theorem wl_do_skip {o : Oper} (hg : o.guard = none) {w' : World} (hr : (execOp a.eval o).run P w = .ok .skip w') (h : wpList P ops Q rest (a.put o.dst undef) w') : wpList P ops Q (o :: rest) a w :=
  wpList_plain hg fun K hK => by unfold Oper.wp; rw [hr]; exact hK _ _ h

theorem wl_box {E : TypeId} {x : Operand} {v : Value} (hs : Sat w0 w L) (hv : a.eval x = v)
    (h : ∀ b w1, Sat w0 w1 (blk b (.cells v.cells E) :: L) → wpList P ops Q rest (a.put dst (.pointer (some ⟨b, 0, none⟩))) w1) :
    wpList P ops Q (⟨dst, .box E x, ty, pos, aft, none⟩ :: rest) a w := by
  refine wl_do rfl (v := .pointer (some ⟨w.heap.size, 0, none⟩)) (w' := w.alloc (.cells v.cells E)) ?_ (h _ _ (hs.alloc _))
  simp [execOp, Instr.box, newVar, newRow, hv]

theorem wl_alloc {E : TypeId} {z : Value} {sz by_ : Nat} [hi : Inf P E z sz by_] (hs : Sat w0 w L)
    (h : ∀ b w1, Sat w0 w1 (blk b (.cells z.cells E) :: L) → wpList P ops Q rest (a.put dst (.pointer (some ⟨b, 0, none⟩))) w1) :
    wpList P ops Q (⟨dst, .alloc E, ty, pos, aft, none⟩ :: rest) a w := by
  obtain ⟨i, h1, h2, h3, h4, h5⟩ := hi.h
  refine wl_do rfl (v := .pointer (some ⟨w.heap.size, 0, none⟩)) (w' := w.alloc (.cells z.cells E)) ?_ (h _ _ (hs.alloc _))
  simp [execOp, Instr.alloc, newVar, newRow, zeroValue, typeInfo, h1, h2]

/-- A load of one cell. -/
theorem wl_load {T : TypeId} {x : Operand} {ad : Addr} {v : Value} [hT : Scal P T] (hs : Sat w0 w L) (hx : a.eval x = .pointer (some ad)) (hc : Cl w0 L ad v)
    (h : wpList P ops Q rest (a.put dst v) w) : wpList P ops Q (⟨dst, .load T x, ty, pos, aft, none⟩ :: rest) a w := by
  obtain ⟨d, h1, h2⟩ := hT.h
  refine wl_do rfl (v := v) (w' := w) ?_ h
  have hagg : (isAgg T).run P w = .ok false w := by
    unfold isAgg
    rw [Sem.run_bind, run_underlying h1 w]
    cases d <;> simp_all
  simp [execOp, hx, Instr.loadAt, Instr.sureAddr, loadVar, hagg, load, Sem.run, hc w hs]

/-- A load of a struct or an array. -/
theorem wl_loadAgg {T : TypeId} {x : Operand} {b off n : Nat} {cur : Array Value} {E : TypeId} {fr : Nat × Nat} {L' : List HP} {cs : List Value} [hT : AggT P T n] (hs : Sat w0 w L) (hx : a.eval x = .pointer (some ⟨b, off, none⟩))
    (ho : Out (blk b (.cells cur E fr)) L L') (hn : off + n ≤ cur.size) (hcs : (cur.toList.drop off).take n = cs)
    (h : wpList P ops Q rest (a.put dst (.agg cs.toArray)) w) : wpList P ops Q (⟨dst, .load T x, ty, pos, aft, none⟩ :: rest) a w := by
  obtain ⟨⟨d, h1, h2⟩, h3⟩ := hT.h
  subst hcs
  have hg := hs.get ho
  have hlen : ((cur.toList.drop off).take n).length = n := by simp; omega
  refine wl_do rfl (v := .agg ((cur.toList.drop off).take n).toArray) (w' := w) ?_ h
  have hl := run_loadAt_mid (P := P) w b off T ((cur.toList.drop off).take n) d (fun j v hv => by
    rw [List.getElem?_take] at hv
    split at hv
    · rw [List.getElem?_drop] at hv
      simpa [World.cell?, hg] using hv
    · cases hv) h1 h2 (by rw [h3, hlen])
  simp only [execOp, hx, Sem.run_bind, hl, Result.andThen_ok, Sem.run_pure]

/-- cs written from offset off on -/
def upd (cur : Array Value) (off : Nat) (cs : List Value) : Array Value := (cur.toList.take off ++ cs ++ cur.toList.drop (off + cs.length)).toArray

theorem upd_size {cur : Array Value} {off : Nat} {cs : List Value} (h : off + cs.length ≤ cur.size) : (upd cur off cs).size = cur.size := by
  simp [upd]; omega

theorem run_store_row {T : TypeId} {b off n : Nat} {cur : Array Value} {E : TypeId} {v : Value} {z : Value} {by_ : Nat} [hi : Inf P T z n by_] (hg : w.heap[b]? = some (.cells cur E (0, 0)))
    (hn : v.cells.size = n) (h1 : ∀ u ∈ v.cells.toList, u.oneCell' = true) (hfit : off + n ≤ cur.size) :
    (Instr.storeAt T (.pointer (some ⟨b, off, none⟩)) v).run P w = .ok () (w.setRow b (upd cur off v.cells.toList)) := by
  obtain ⟨i, g1, g2, g3, g4, g5⟩ := hi.h
  have := run_storeCells_at P b off E v.cells.toList 0 cur w hg (by simp; omega) h1
  simp only [Nat.add_zero] at this
  simp [Instr.storeAt, Instr.sureAddr, storeVar, Go.sizeOf, typeInfo, g1, g3, hn, this, upd]

theorem Sat.setRow {b : Nat} {cur cur' : Array Value} {E : TypeId} {fr : Nat × Nat} {L' : List HP} (h : Sat w0 w L) (hr : Rep (blk b (.cells cur E fr)) (blk b (.cells cur' E fr)) L L') : Sat w0 (w.setRow b cur') L' := by
  obtain ⟨M, ho, _⟩ := hr.out
  have hg := h.get ho
  exact h.put_at hr (setRow_heap w b cur cur' E fr hg) (fun k hk _ => setRow_other w b k cur' hk) rfl rfl rfl

/-- A store into a block. -/
theorem wl_store {T : TypeId} {x y : Operand} {b off n : Nat} {cur : Array Value} {E : TypeId} {v z : Value} {by_ : Nat} {L' : List HP} [hi : Inf P T z n by_] (hs : Sat w0 w L) (hx : a.eval x = .pointer (some ⟨b, off, none⟩)) (hy : a.eval y = v)
    (ho : Out (blk b (.cells cur E (0, 0))) L L') (hn : v.cells.size = n) (h1 : ∀ u ∈ v.cells.toList, u.oneCell' = true) (hfit : off + n ≤ cur.size)
    (h : ∀ w1, Sat w0 w1 (blk b (.cells (upd cur off v.cells.toList) E (0, 0)) :: L') → wpList P ops Q rest (a.put dst undef) w1) : wpList P ops Q (⟨dst, .store T x y, ty, pos, aft, none⟩ :: rest) a w := by
  have hg := hs.get ho
  refine wl_do_skip rfl ?_ (h _ ((hs.out ho).setRow (.here _)))
  simp only [execOp, hx, hy, Sem.run_bind, run_store_row (P := P) (T := T) hg hn h1 hfit, Result.andThen_ok, Sem.run_pure]

/-- A store of one cell. -/
theorem wl_store1 {T : TypeId} {x y : Operand} {b off : Nat} {cur : Array Value} {E : TypeId} {v z : Value} {by_ : Nat} {L' : List HP} [hi : Inf P T z 1 by_] (hs : Sat w0 w L) (hx : a.eval x = .pointer (some ⟨b, off, none⟩)) (hy : a.eval y = v)
    (ho : Out (blk b (.cells cur E (0, 0))) L L') (hn : v.cells = #[v]) (h1 : v.oneCell' = true) (hfit : off < cur.size)
    (h : ∀ w1, Sat w0 w1 (blk b (.cells (cur.setIfInBounds off v) E (0, 0)) :: L') → wpList P ops Q rest (a.put dst undef) w1) : wpList P ops Q (⟨dst, .store T x y, ty, pos, aft, none⟩ :: rest) a w := by
  have e : upd cur off v.cells.toList = cur.setIfInBounds off v := by
    rw [hn]; apply Array.ext'; simp [upd, List.set_eq_take_append_cons_drop]; intro h; omega
  exact wl_store hs hx hy ho (by rw [hn]; rfl) (by rw [hn]; simpa using h1) hfit (by rw [e]; exact h)

/-- A store into an element of a slice of one's own. -/
theorem wl_store_own {T : TypeId} {x y : Operand} {b i c n : Nat} {xs : List Value} {E : TypeId} {v z : Value} {by_ : Nat} {L' : List HP} [hi : Inf P T z 1 by_] (hs : Sat w0 w L) (hx : a.eval x = .pointer (some ⟨b, i, none⟩)) (hy : a.eval y = v)
    (ho : Out (own E 1 (some ⟨b, 0, none⟩) c n xs) L L') (hn : v.cells = #[v]) (h1 : v.oneCell' = true) (hlt : i < n)
    (h : ∀ w1, Sat w0 w1 (own E 1 (some ⟨b, 0, none⟩) c n (xs.set i v) :: L') → wpList P ops Q rest (a.put dst undef) w1) : wpList P ops Q (⟨dst, .store T x y, ty, pos, aft, none⟩ :: rest) a w := by
  obtain ⟨hl, hc⟩ := (hs.out ho).own_inv
  rcases hc with ⟨e, _⟩ | ⟨g, cur, e, hb, h3, h4, h5, h6⟩
  · cases e
  · cases e
    refine wl_store1 hb hx hy (.here _) hn h1 (by omega) fun w1 hw => h w1 ?_
    refine Sat.own_mk hw (by simpa using hl) h3 h4 (by simpa using h5) ?_
    simp only [Nat.mul_one] at h6 ⊢
    rw [← h6]
    simp [List.take_set]

theorem fill_ones {place : Nat → Option (Nat × Nat)} (hp : ∀ i, place i = some (i, 1)) : ∀ (vs : List Value) (k : Nat) (cells : Array Value), (∀ v ∈ vs, v.cells = #[v]) → k + vs.length ≤ cells.size →
    Instr.fill place cells (vs.zipIdx k |>.map fun x => (x.2, x.1)) = some (cells.toList.take k ++ vs ++ cells.toList.drop (k + vs.length)).toArray
  | [], k, cells, _, _ => by simp [Instr.fill]
  | v :: vs, k, cells, h1, hk => by
    have hv := h1 v (by simp)
    simp only [List.length_cons] at hk
    have hd : ¬ (k + 1 > cells.size) := by omega
    have ih := fill_ones hp vs (k + 1) (cells.setIfInBounds k v) (fun u hu => h1 u (by simp [hu])) (by simp; omega)
    simp only [List.zipIdx_cons, List.map_cons, Instr.fill, hp, hv]
    simp only [List.size_toArray, List.length_cons, List.length_nil, Nat.zero_add, ne_eq, not_true_eq_false, decide_false, Bool.false_or, decide_eq_true_eq, gt_iff_lt]
    rw [if_neg (by omega)]
    have hz : (#[v] : Array Value).zipIdx = #[(v, 0)] := by simp [Array.zipIdx]
    rw [hz]
    simp only [List.foldl_toArray, List.foldl_cons, List.foldl_nil, Nat.add_zero]
    rw [ih]
    congr 1
    apply Array.ext'
    simp only [Array.toList_setIfInBounds]
    have e := list_seg_step cells.toList k v vs (by simp; omega)
    rw [show k + (vs.length + 1) = k + 1 + vs.length from by omega] at e
    simpa [show k + (vs.length + 1) = k + 1 + vs.length from by omega] using e

/-- 'T{v0, v1, ..}', a slice all of whose elements are given, each of one cell. -/
theorem wl_buildSlice {T E : TypeId} {n : Nat} {parts : Array (Nat × Operand)} {vs : List Value} {z : Value} {by_ : Nat} [hT : SlT P T E] [hi : Inf P E z 1 by_] (hs : Sat w0 w L)
    (hp : parts.toList.map (fun x => x.1) = List.range n) (hvs : parts.toList.map (fun x => a.eval x.2) = vs) (h1 : ∀ v ∈ vs, v.cells = #[v]) (hb : n ≤ 65536)
    (h' : ∀ b w1, Sat w0 w1 (own E 1 (some ⟨b, 0, none⟩) n n vs :: L) → wpList P ops Q rest (a.put dst (.slice (some ⟨b, 0, none⟩) n n)) w1) :
    wpList P ops Q (⟨dst, .buildSlice T n parts, ty, pos, aft, none⟩ :: rest) a w := by
  have hn0 : vs.length = n := by rw [← hvs]; have := congrArg List.length hp; simpa using this
  have h : ∀ b w1, Sat w0 w1 (blk b (.cells vs.toArray E (0, 0)) :: L) → wpList P ops Q rest (a.put dst (.slice (some ⟨b, 0, none⟩) n n)) w1 := fun b w1 hw =>
    h' b w1 (Sat.own_mk hw (by omega) (Nat.le_refl _) (by simp only [maxLen]; omega) (by simp; omega) (by rw [Nat.mul_one, ← hn0]; simp))
  have hn : vs.length = n := by rw [← hvs]; have := congrArg List.length hp; simpa using this
  have hv : (parts.map fun x => (x.1, a.eval x.2)).toList = vs.zipIdx.map fun x => (x.2, x.1) := by
    rw [← hvs]
    apply List.ext_getElem?
    intro k
    have hk := congrArg (fun l => l[k]?) hp
    simp only [List.getElem?_map, List.getElem?_zipIdx, Array.toList_map] at hk ⊢
    cases hq : parts.toList[k]? with
    | none => simp
    | some x =>
      have hkn : k < n := by
        have := (List.getElem?_eq_some_iff.1 hq).1
        have e := congrArg List.length hp
        simp at e this; omega
      rw [hq] at hk
      simp [List.getElem?_range hkn] at hk
      simp [hk]
  obtain ⟨i, g1, g2, g3, g4, g5⟩ := hi.h
  subst hn
  have hlen : ∀ k, ((Array.range k).map fun j => z.cells[j % z.cells.size]!).size = k := fun k => by simp
  have hf := fill_ones (place := fun j => some (j * 1, 1)) (fun i => by simp) vs 0 ((Array.range vs.length).map fun j => z.cells[j % z.cells.size]!) h1 (by simp)
  have e0 : ((#[] : Array Value)).size = 0 := rfl
  refine wl_do rfl (v := .slice (some ⟨w.heap.size, 0, none⟩) vs.length vs.length) (w' := w.alloc (.cells vs.toArray E)) ?_ (h _ _ (hs.alloc _))
  have hz : ¬ (16777216 < vs.length) := by omega
  have hv' : List.map (fun x => (x.1, a.eval x.2)) parts.toList = vs.zipIdx.map fun x => (x.2, x.1) := by rw [← hv]; simp
  simp only [List.take_zero, List.nil_append, Nat.zero_add] at hf
  rw [List.drop_eq_nil_of_le (by simp)] at hf
  simp only [List.append_nil, Nat.mul_one] at hf
  by_cases h0 : vs = []
  · subst h0
    simp [execOp, Instr.buildSlice, run_underlying hT.h, Go.sizeOf, typeInfo, g1, newRow, hv', Instr.fill, show Array.range 0 = #[] from rfl]
  · have h0' : ¬ vs.length = 0 := by simpa using h0
    simp [execOp, Instr.buildSlice, run_underlying hT.h, Go.sizeOf, typeInfo, zeroValue, newRow, g1, g2, g3, h0, hz, hv', hf]
end

/-! ### Append -/
section
variable {P : Program} {w0 w : World} {L M : List HP}

theorem sem_append {T t' E : TypeId} {sz by_ : Nat} {z : Value} [hT : SlT P T E] [hi : Inf P E z sz by_] {A : Option Addr} {c n : Nat} {xs : List Value} {B : Option Addr} {m d : Nat} {news : List Value}
    (hs : Sat w0 w (own E sz A c n xs :: L)) (hr : Rd w0 (own E sz A c n xs :: L) B m sz news) (h1 : ∀ u ∈ news, u.oneCell' = true) (hm : n + m ≤ maxLen) (hby : (n + m) * by_ ≤ 140737488355328) :
    ∃ A' c' w', (Builtin.append_ #[T, T] t' #[.slice A n c, .slice B m d]).run P w = .ok (.slice A' (n + m) c') w' ∧ Sat w0 w' (own E sz A' c' (n + m) (xs ++ news) :: L) ∧ (0 < n → m = 0 → A' = A) := by
  obtain ⟨i, g1, g2, rfl, rfl, g5⟩ := hi.h
  have hrd := hr w hs
  obtain ⟨hl, hc⟩ := hs.own_inv
  have hlen : (xs ++ news).length = (n + m) * i.size := by rw [List.length_append, hl, hrd.len, Nat.add_mul]
  have hsmall : n + m ≤ 9223372036854775807 := by simp only [maxLen] at hm; omega
  cases B with
  | none =>
    have hm0 : m = 0 := hrd.nil rfl
    subst hm0
    have hn0 : news = [] := by have := hrd.len; simpa using this
    subst hn0
    refine ⟨A, c, w, ?_, by simpa using hs, fun _ _ => rfl⟩
    have hcap : n ≤ c := by rcases hc with ⟨_, rfl, rfl⟩ | ⟨_, _, _, _, h3, _⟩ <;> omega
    have hf : (Builtin.firstCells i.size 0 (.slice none 0 d)).run P w = .ok #[] w := by simp [Builtin.firstCells]
    cases A with
    | none => simp [Builtin.append_, run_underlying hT.h, Go.sizeOf, typeInfo, g1, Builtin.lenOf, hcap, Builtin.firstCells]
    | some ad => simp [Builtin.append_, run_underlying hT.h, Go.sizeOf, typeInfo, g1, Builtin.lenOf, hcap, Builtin.firstCells, storeCells]
  | some bd =>
    have hnews := hrd.add
    have grow : ∀ old, old < n + m → Sat w0 (w.drew.alloc (.cells (xs.toArray ++ news.toArray ++ Builtin.zeroCells z.cells (grownCap w (n + m) old E - (n + m))) E))
        (own E i.size (some ⟨w.heap.size, 0, none⟩) (grownCap w (n + m) old E) (n + m) (xs ++ news) :: L) := by
      intro old ho
      have hge := grownCap_ge w (n + m) old E
      have hcm : grownCap w (n + m) old E ≤ maxLen := grownCap_le_maxLen w (n + m) old E hm
      have hb := (hs.tail.drew).alloc (.cells (xs.toArray ++ news.toArray ++ Builtin.zeroCells z.cells (grownCap w (n + m) old E - (n + m))) E)
      refine Sat.own_mk hb hlen hge hcm ?_ ?_
      · simp only [Array.size_append, List.size_toArray, size_zeroCells, g5, hl, hrd.len, ← Nat.add_mul]
        congr 1
        omega
      · simp only [Array.toList_append, List.append_assoc]
        rw [← List.append_assoc, ← hlen]
        exact List.take_left
    rcases hc with ⟨rfl, rfl, rfl⟩ | ⟨g, cur, rfl, hb, h3, h4, h5, h6⟩
    · have hx : xs = [] := List.eq_nil_of_length_eq_zero (by simpa using hl)
      subst hx
      by_cases hm0 : m = 0
      · subst hm0
        have hn : news = [] := List.eq_nil_of_length_eq_zero (by simpa using hrd.len)
        subst hn
        refine ⟨none, 0, w, ?_, hs, fun h => absurd h (by omega)⟩
        simp [Builtin.append_, run_underlying hT.h, Go.sizeOf, typeInfo, g1, Builtin.lenOf, Builtin.firstCells, loadCells, loadCellsFrom]
      · have hr := run_append_nil (P := P) w T t' E i z hT.h g1 g2 bd m d news hrd.len hnews (by omega) (by omega) (by have := hby; simp only [Nat.zero_add] at this; omega)
        have hg := grow 0 (by omega)
        simp only [Nat.zero_add, List.nil_append, Array.empty_append] at hg ⊢
        exact ⟨_, _, _, hr, hg, fun h => absurd h (by omega)⟩
    · by_cases hroom : n + m ≤ c
      · have hfit : n * i.size + news.length ≤ cur.size := by rw [hrd.len, h5, ← Nat.add_mul]; exact Nat.mul_le_mul_right _ hroom
        have hg := hb.get (.here _)
        have hr := run_append_room (P := P) w T t' E i hT.h g1 g n c cur hg bd m d news hrd.len hnews h1 hroom hfit
        refine ⟨_, _, _, hr, Sat.own_mk (hb.setRow (.here _)) hlen hroom h4 ?_ ?_, fun _ _ => rfl⟩
        · simp only [List.size_toArray, List.length_append, List.length_take, List.length_drop, Array.length_toList]
          omega
        · rw [h6, ← hlen]
          exact List.take_left
      · have hro := (Rd.own (w0 := w0) (L := L) w hs).add
        have hr := run_append_grow (P := P) w T t' E i z hT.h g1 g2 ⟨g, 0, none⟩ n c xs hl hro bd m d news hrd.len hnews (by omega) (by omega) (growslice_fits (by omega) hby)
        exact ⟨_, _, _, hr, grow c (by omega), fun h e => absurd hroom (by omega)⟩

variable {ops : Array Oper} {Q : Exit → Act → World → Prop} {rest : List Oper} {a : Act}
variable {dst : Option Tmp} {ty : TypeId} {pos : String} {aft : Array Edge}

/-- append(s, x...) on a slice of one's own. -/
theorem wl_append {T E : TypeId} {sz by_ : Nat} {z : Value} [hT : SlT P T E] [hi : Inf P E z sz by_] {s x : Operand} {A : Option Addr} {c n : Nat} {xs : List Value} {B : Option Addr} {m d : Nat} {news : List Value}
    (hs : Sat w0 w L) (hv : a.eval s = .slice A n c) (hx : a.eval x = .slice B m d)
    (ho : Out (own E sz A c n xs) L M) (hr : Rd w0 L B m sz news) (h1 : ∀ u ∈ news, u.oneCell' = true) (hm : n + m ≤ maxLen) (hby : (n + m) * by_ ≤ 140737488355328)
    (h : ∀ A' c' w1, Sat w0 w1 (own E sz A' c' (n + m) (xs ++ news) :: M) → n + m ≤ c' → wpList P ops Q rest (a.put dst (.slice A' (n + m) c')) w1) :
    wpList P ops Q (⟨dst, .call { callee := .builtin .append, args := #[s, x], argTypes := #[T, T] }, ty, pos, aft, none⟩ :: rest) a w := by
  obtain ⟨A', c', w', hrun, hsat, _⟩ := sem_append (P := P) (T := T) (t' := ty) (d := d) (hs.out ho) (fun w hw => hr w (hw.into ho)) h1 hm hby
  refine wl_do rfl ?_ (h _ _ _ hsat hsat.own_cap)
  simp only [execOp, resolve, invoke, builtin, Sem.run_bind, Sem.run_pure, Result.andThen_ok, List.map_toArray, List.map_cons, List.map_nil, hv, hx, hrun]

#print axioms wl_append
end
end Sl
