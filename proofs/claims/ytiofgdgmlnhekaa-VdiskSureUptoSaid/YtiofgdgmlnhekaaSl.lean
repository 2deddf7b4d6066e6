/-
  A small separation logic over the model's heap: what is known of the heap is one list of resources, each with blocks of its own. No Go program in it.
-/
import Derived.WalkKit
import Derived.Deep.MidRow
import Derived.Laws.IdiomStrings
import Derived.Laws.BytesString
import Derived.Laws.AppendOwn
import Derived.Laws.Tables
namespace Sl
open Go

/-- A piece of a heap. -/
abbrev Hl := Nat → Option Obj
abbrev HP := Hl → Prop
def Hl.le (a b : Hl) : Prop := ∀ k o, a k = some o → b k = some o
def Hl.dj (a b : Hl) : Prop := ∀ k o o', a k = some o → b k = some o' → False
def Hl.un (a b : Hl) : Hl := fun k => match a k with | some o => some o | none => b k

theorem Hl.le_refl (a : Hl) : a.le a := fun _ _ h => h
theorem Hl.le.trans {a b c : Hl} (h : a.le b) (k : b.le c) : a.le c := fun i o hi => k i o (h i o hi)
theorem Hl.dj_symm {a b : Hl} (h : a.dj b) : b.dj a := fun k o o' h1 h2 => h k o' o h2 h1
theorem Hl.dj_le {a b c d : Hl} (h : a.dj b) (h1 : c.le a) (h2 : d.le b) : c.dj d := fun k o o' e1 e2 => h k o o' (h1 _ _ e1) (h2 _ _ e2)
theorem Hl.le_un {a b : Hl} : a.le (a.un b) := fun k o h => by simp [Hl.un, h]
theorem Hl.le_un' {a b : Hl} (h : a.dj b) : b.le (a.un b) := fun k o hb => by
  unfold Hl.un
  cases ha : a k with
  | none => exact hb
  | some o' => exact (h k o' o ha hb).elim

theorem Hl.un_le {a b c : Hl} (h : a.le c) (k : b.le c) : (a.un b).le c := fun i o hi => by
  unfold Hl.un at hi
  cases ha : a i with
  | none => rw [ha] at hi; exact k i o hi
  | some o' => rw [ha] at hi; cases hi; exact h i _ ha

theorem Hl.un_dj {a b c : Hl} (h : a.dj c) (k : b.dj c) : (a.un b).dj c := fun i o o' h1 h2 => by
  unfold Hl.un at h1
  cases ha : a i with
  | none => rw [ha] at h1; exact k i o o' h1 h2
  | some p => exact h i p o' ha h2

/-- All the resources of a list, each with blocks of its own, in a heap. -/
def SatH : List HP → HP
  | [], _ => True
  | p :: L, h => ∃ a b, p a ∧ SatH L b ∧ a.dj b ∧ a.le h ∧ b.le h

theorem SatH.mono {L : List HP} {h h' : Hl} (H : SatH L h) (hl : h.le h') : SatH L h' := by
  cases L with
  | nil => trivial
  | cons p L => obtain ⟨a, b, h1, h2, h3, h4, h5⟩ := H; exact ⟨a, b, h1, h2, h3, h4.trans hl, h5.trans hl⟩

theorem SatH.swap {p q : HP} {L : List HP} {h : Hl} (H : SatH (p :: q :: L) h) : SatH (q :: p :: L) h := by
  obtain ⟨a, b, hp, ⟨c, d, hq, hL, hcd, hc, hd⟩, hab, ha, hb⟩ := H
  refine ⟨c, a.un d, hq, ⟨a, d, hp, hL, Hl.dj_le hab (Hl.le_refl _) hd, Hl.le_un, Hl.le_un' (Hl.dj_le hab (Hl.le_refl _) hd)⟩, ?_, hc.trans hb, Hl.un_le ha (hd.trans hb)⟩
  exact Hl.dj_symm (Hl.un_dj (Hl.dj_le hab (Hl.le_refl _) hc) (Hl.dj_symm hcd))

theorem SatH.tail {p : HP} {L : List HP} {h : Hl} (H : SatH (p :: L) h) : SatH L h := by
  obtain ⟨a, b, _, h2, _, _, h5⟩ := H; exact h2.mono h5

theorem SatH.cons_mono {p : HP} {L L' : List HP} (hL : ∀ h, SatH L h → SatH L' h) {h : Hl} (H : SatH (p :: L) h) : SatH (p :: L') h := by
  obtain ⟨a, b, h1, h2, h3, h4, h5⟩ := H; exact ⟨a, b, h1, hL _ h2, h3, h4, h5⟩

theorem SatH.perm {L L' : List HP} (hp : L.Perm L') : ∀ {h : Hl}, SatH L h → SatH L' h := by
  induction hp with
  | nil => exact fun H => H
  | cons x _ ih => exact fun H => SatH.cons_mono (fun _ => ih) H
  | swap x y l => exact fun H => H.swap
  | trans _ _ ih1 ih2 => exact fun H => ih2 (ih1 H)

/-- The first resource taken apart into a list of resources. -/
theorem SatH.split {M L : List HP} {h : Hl} (H : SatH (SatH M :: L) h) : SatH (M ++ L) h := by
  induction M generalizing L h with
  | nil => exact H.tail
  | cons p M ih =>
    obtain ⟨a, b, ⟨c, d, hp, hM, hcd, hc, hd⟩, hL, hab, ha, hb⟩ := H
    refine ⟨c, d.un b, hp, ih ⟨d, b, hM, hL, Hl.dj_le hab hd (Hl.le_refl _), Hl.le_un, Hl.le_un' (Hl.dj_le hab hd (Hl.le_refl _))⟩, ?_, hc.trans ha, Hl.un_le (hd.trans ha) hb⟩
    exact Hl.dj_symm (Hl.un_dj (Hl.dj_symm hcd) (Hl.dj_symm (Hl.dj_le hab hc (Hl.le_refl _))))

theorem SatH.join {M L : List HP} {h : Hl} (H : SatH (M ++ L) h) : SatH (SatH M :: L) h := by
  induction M generalizing L h with
  | nil => exact ⟨fun _ => none, h, trivial, H, fun _ _ _ e => (by cases e), fun _ _ e => (by cases e), Hl.le_refl _⟩
  | cons p M ih =>
    obtain ⟨a, b, hp, H', hab, ha, hb⟩ := H
    obtain ⟨c, d, hM, hL, hcd, hc, hd⟩ := ih H'
    refine ⟨a.un c, d, ⟨a, c, hp, hM, Hl.dj_le hab (Hl.le_refl _) hc, Hl.le_un, Hl.le_un' (Hl.dj_le hab (Hl.le_refl _) hc)⟩, hL, ?_, Hl.un_le ha (hc.trans hb), hd.trans hb⟩
    exact Hl.un_dj (Hl.dj_le hab (Hl.le_refl _) hd) hcd

theorem SatH.head_mono {p q : HP} {L : List HP} (hpq : ∀ a, p a → q a) {h : Hl} (H : SatH (p :: L) h) : SatH (q :: L) h := by
  obtain ⟨a, b, h1, h2⟩ := H; exact ⟨a, b, hpq _ h1, h2⟩

/-- The world's heap as a function. -/
def hl (w : World) : Hl := fun k => w.heap[k]?

/-- What is known of world w: the streams are those of w0; the resources of L lie in its heap. -/
structure Sat (w0 w : World) (L : List HP) : Prop where
  os : w.os = w0.os
  tape : w.tape = w0.tape
  output : w.output = w0.output
  heap : SatH L (hl w)

/-- A block. -/
def blk (b : Nat) (o : Obj) : HP := fun a => a b = some o

section
variable {w0 w w' : World} {L L' : List HP} {p q : HP}

theorem Sat.perm (h : Sat w0 w L) (hp : L.Perm L') : Sat w0 w L' := ⟨h.os, h.tape, h.output, h.heap.perm hp⟩
theorem Sat.map (h : Sat w0 w L) (hp : ∀ h, SatH L h → SatH L' h) : Sat w0 w L' := ⟨h.os, h.tape, h.output, hp _ h.heap⟩
theorem Sat.tail (h : Sat w0 w (p :: L)) : Sat w0 w L := h.map fun _ H => H.tail
theorem Sat.swap (h : Sat w0 w (p :: q :: L)) : Sat w0 w (q :: p :: L) := h.map fun _ H => H.swap
theorem Sat.drew (h : Sat w0 w L) : Sat w0 w.drew L := ⟨h.os, h.tape, h.output, h.heap⟩
theorem Sat.split {M : List HP} (h : Sat w0 w (SatH M :: L)) : Sat w0 w (M ++ L) := h.map fun _ H => H.split
theorem Sat.join {M : List HP} (h : Sat w0 w (M ++ L)) : Sat w0 w (SatH M :: L) := h.map fun _ H => H.join

/-- 'there is an x' and what is plain, out of the first resource. -/
theorem Sat.ex {α : Type} {P : α → HP} (h : Sat w0 w ((fun a => ∃ x, P x a) :: L)) : ∃ x, Sat w0 w (P x :: L) := by
  obtain ⟨a, b, ⟨x, hx⟩, h2⟩ := h.heap; exact ⟨x, h.os, h.tape, h.output, a, b, hx, h2⟩

theorem Sat.pure {φ : Prop} {P : HP} (h : Sat w0 w ((fun a => φ ∧ P a) :: L)) : φ ∧ Sat w0 w (P :: L) := by
  obtain ⟨a, b, ⟨hφ, hx⟩, h2⟩ := h.heap; exact ⟨hφ, h.os, h.tape, h.output, a, b, hx, h2⟩

theorem Sat.to_head (h : Sat w0 w (p :: L)) (hpq : ∀ a, p a → q a) : Sat w0 w (q :: L) := h.map fun _ H => SatH.head_mono hpq H

/-- p stands in L; L' is L with q there. -/
inductive Rep (p q : HP) : List HP → List HP → Prop
  | here (M : List HP) : Rep p q (p :: M) (q :: M)
  | there (r : HP) (M M' : List HP) : Rep p q M M' → Rep p q (r :: M) (r :: M')

/-- p stands in L; L' is L without. -/
inductive Out (p : HP) : List HP → List HP → Prop
  | here (M : List HP) : Out p (p :: M) M
  | there (r : HP) (M M' : List HP) : Out p M M' → Out p (r :: M) (r :: M')

theorem Out.perm (h : Out p L L') : L.Perm (p :: L') := by
  induction h with
  | here _ => exact .refl _
  | there _ _ _ _ ih => exact (List.Perm.cons _ ih).trans (.swap _ _ _)

theorem Rep.out (h : Rep p q L L') : ∃ M, Out p L M ∧ Out q L' M := by
  induction h with
  | here _ => exact ⟨_, .here _, .here _⟩
  | there _ _ _ _ ih => obtain ⟨M, h1, h2⟩ := ih; exact ⟨_, .there _ _ _ h1, .there _ _ _ h2⟩

theorem Sat.out (h : Sat w0 w L) (ho : Out p L L') : Sat w0 w (p :: L') := h.perm ho.perm
theorem Sat.into (h : Sat w0 w (p :: L')) (ho : Out p L L') : Sat w0 w L := h.perm ho.perm.symm

/-- The resources of T stand in L, each at a place of its own. -/
inductive Pick : List HP → List HP → Prop
  | nil (M : List HP) : Pick M []
  | cons {p : HP} {M M' T : List HP} : Out p M M' → Pick M' T → Pick M (p :: T)
  | tail (M : List HP) : Pick M M
  | drop {p : HP} {M T : List HP} : Pick M T → Pick (p :: M) T

theorem Sat.pick {T : List HP} (h : Sat w0 w L) (hp : Pick L T) : Sat w0 w T := by
  suffices H : ∀ L T : List HP, Pick L T → ∀ h, SatH L h → SatH T h from h.map (H _ _ hp)
  intro L T hp
  induction hp with
  | nil => exact fun _ _ => trivial
  | cons ho _ ih => exact fun h H => SatH.cons_mono ih (H.perm ho.perm)
  | tail => exact fun h H => H
  | drop _ ih => exact fun h H => ih h H.tail

theorem Sat.get (h : Sat w0 w L) {b : Nat} {o : Obj} (ho : Out (blk b o) L L') : w.heap[b]? = some o := by
  obtain ⟨a, _, h1, _, _, h2, _⟩ := (h.out ho).heap; exact h2 _ _ h1

theorem SatH.get {h : Hl} (H : SatH L h) {b : Nat} {o : Obj} (ho : Out (blk b o) L L') : h b = some o := by
  obtain ⟨a, _, h1, _, _, h2, _⟩ := H.perm ho.perm; exact h2 _ _ h1

/-- Two blocks of a list are two. -/
theorem Sat.ne {b c : Nat} {o o' : Obj} (h : Sat w0 w (blk b o :: L)) (ho : Out (blk c o') L L') : b ≠ c := by
  obtain ⟨a, d, h1, h2, hd, _, _⟩ := h.heap
  intro e; subst e
  obtain ⟨_, _, h3, _, _, h4, _⟩ := h2.perm ho.perm
  exact hd _ _ _ h1 (h4 _ _ h3)

/-- A new block. -/
theorem Sat.alloc (h : Sat w0 w L) (o : Obj) : Sat w0 (w.alloc o) (blk w.heap.size o :: L) := by
  refine ⟨h.os, h.tape, h.output, fun k => if k = w.heap.size then some o else none, hl w, by simp [blk], h.heap, ?_, ?_, ?_⟩
  · intro k o1 o2 h1 h2
    dsimp only at h1
    split at h1
    · rename_i e; subst e; simp [hl] at h2
    · cases h1
  · intro k o1 h1
    dsimp only at h1
    split at h1
    · rename_i e; subst e; cases h1
      show (w.heap.push o)[w.heap.size]? = _
      simp
    · cases h1
  · intro k o1 h1
    show (w.heap.push o)[k]? = _
    have : k < w.heap.size := (Array.getElem?_eq_some_iff.1 h1).1
    rw [Array.getElem?_push, if_neg (by omega)]; exact h1

/-- A block is written. -/
theorem Sat.put {b : Nat} {o o' : Obj} (h : Sat w0 w (blk b o :: L)) (hb : w'.heap[b]? = some o') (hk : ∀ k, k ≠ b → k < w.heap.size → w'.heap[k]? = w.heap[k]?)
    (h1 : w'.os = w.os) (h2 : w'.tape = w.tape) (h3 : w'.output = w.output) : Sat w0 w' (blk b o' :: L) := by
  obtain ⟨a, d, g1, g2, g3, g4, g5⟩ := h.heap
  refine ⟨h1.trans h.os, h2.trans h.tape, h3.trans h.output, fun k => if k = b then some o' else none, d, by simp [blk], g2, ?_, ?_, ?_⟩
  · intro k o1 o2 e1 e2
    dsimp only at e1
    split at e1
    · rename_i e; subst e; exact g3 _ _ _ g1 e2
    · cases e1
  · intro k o1 e1
    dsimp only at e1
    split at e1
    · rename_i e; subst e; cases e1; exact hb
    · cases e1
  · intro k o1 e1
    have hne : k ≠ b := fun e => by subst e; exact g3 _ _ _ g1 e1
    have := g5 _ _ e1
    show w'.heap[k]? = _
    rw [hk k hne (Array.getElem?_eq_some_iff.1 this).1]; exact this

theorem Sat.put_at {b : Nat} {o o' : Obj} (h : Sat w0 w L) (hr : Rep (blk b o) (blk b o') L L') (hb : w'.heap[b]? = some o') (hk : ∀ k, k ≠ b → k < w.heap.size → w'.heap[k]? = w.heap[k]?)
    (h1 : w'.os = w.os) (h2 : w'.tape = w.tape) (h3 : w'.output = w.output) : Sat w0 w' L' := by
  obtain ⟨M, ho, ho'⟩ := hr.out
  exact ((h.out ho).put hb hk h1 h2 h3).into ho'

/-- New blocks do not disturb. -/
theorem Sat.grown (h : Sat w0 w L) (hk : ∀ k, k < w.heap.size → w'.heap[k]? = w.heap[k]?) (h1 : w'.os = w.os) (h2 : w'.tape = w.tape) (h3 : w'.output = w.output) : Sat w0 w' L :=
  ⟨h1.trans h.os, h2.trans h.tape, h3.trans h.output, h.heap.mono fun k o e => by
    show w'.heap[k]? = _
    rw [hk k (Array.getElem?_eq_some_iff.1 e).1]; exact e⟩
end

/-- All that lay in w. -/
def old (w : World) : HP := fun a => hl w |>.le a

theorem Sat.start (w : World) : Sat w w [old w] :=
  ⟨rfl, rfl, rfl, hl w, fun _ => none, Hl.le_refl _, trivial, fun _ _ _ _ e => (by cases e), Hl.le_refl _, fun _ _ e => (by cases e)⟩

theorem Sat.of_old {w w' : World} {L M : List HP} (h : Sat w w' L) (ho : Out (old w) L M) : ∀ k, k < w.heap.size → w'.heap[k]? = w.heap[k]? := by
  intro k hk
  obtain ⟨a, _, h1, _, _, h2, _⟩ := (h.out ho).heap
  have e : hl w k = some w.heap[k] := by simp [hl, hk]
  have := h2 _ _ (h1 _ _ e)
  show hl w' k = hl w k
  rw [this, e]

theorem Sat.below {w w' : World} {L M : List HP} (h : Sat w w' L) (ho : Out (old w) L M) : Go.RowKit.Below w.heap.size w w' := by
  refine ⟨h.os, h.tape, h.output, ?_, h.of_old ho⟩
  by_cases hz : w.heap.size = 0
  · omega
  · have h1 := h.of_old ho (w.heap.size - 1) (by omega)
    have h2 : w.heap[w.heap.size - 1]? = some (w.heap[w.heap.size - 1]'(by omega)) := Array.getElem?_eq_getElem (by omega)
    rw [h2] at h1
    have h3 := (Array.getElem?_eq_some_iff.1 h1).1
    omega

#print axioms Sat.below
#print axioms Sat.put_at
end Sl

/-
  The rules of the separation logic for the operations that touch memory. No Go program in it.
-/
namespace Sl
open Go Go.RowKit

/-! ### What the rules ask of types -/
class Scal (P : Program) (T : TypeId) : Prop where
  h : ∃ d, P.underlying T = some d ∧ d.isRow = false

class AggT (P : Program) (T : TypeId) (n : outParam Nat) : Prop where
  h : (∃ d, P.underlying T = some d ∧ d.isRow = true) ∧ (P.info? T).map (·.size) = some n

class SlT (P : Program) (T : TypeId) (E : outParam TypeId) : Prop where
  h : P.underlying T = some (.slice E)

class StrT (P : Program) (T : TypeId) : Prop where
  h : P.underlying T = some .string

class U8T (P : Program) (T : TypeId) : Prop where
  h : P.underlying T = some (.int .u8)

class Inf (P : Program) (E : TypeId) (z : outParam Value) (sz by_ : outParam Nat) : Prop where
  h : ∃ i, P.info? E = some i ∧ i.zero = some z ∧ i.size = sz ∧ i.bytes = by_ ∧ z.cells.size = sz

theorem Inf.of {P : Program} {E : TypeId} {z : Value} {sz by_ : Nat} (h : (P.info? E).map (fun i => (i.zero, i.size, i.bytes)) = some (some z, sz, by_)) (hz : z.cells.size = sz) : Inf P E z sz by_ := by
  cases hq : P.info? E with
  | none => simp [hq] at h
  | some i => simp [hq] at h; exact ⟨i, hq, h.1, h.2.1, h.2.2, hz⟩

/-! ### Reading -/
/-- The slice value reads as the cells xs (n elements of sz cells). -/
structure Reads (w : World) (A : Option Addr) (n : Nat) (sz : Nat) (xs : List Value) : Prop where
  len : xs.length = n * sz
  nil : A = none → n = 0
  cell : ∀ a, A = some a → ∀ j u, xs[j]? = some u → a.spot = none ∧ w.cell? ⟨a.block, a.off + j, none⟩ = some u

/-- In every world of which L is known the slice reads as xs. -/
def Rd (w0 : World) (L : List HP) (A : Option Addr) (n : Nat) (sz : Nat) (xs : List Value) : Prop := ∀ w, Sat w0 w L → Reads w A n sz xs
/-- In every world of which L is known the cell holds v. -/
def Cl (w0 : World) (L : List HP) (a : Addr) (v : Value) : Prop := ∀ w, Sat w0 w L → w.cell? a = some v

theorem Rd.cons {w0 : World} {p : HP} {L : List HP} {A n sz xs} (h : Rd w0 L A n sz xs) : Rd w0 (p :: L) A n sz xs := fun w hs => h w hs.tail
theorem Cl.cons {w0 : World} {p : HP} {L : List HP} {a v} (h : Cl w0 L a v) : Cl w0 (p :: L) a v := fun w hs => h w hs.tail

theorem addr_add (a : Addr) (h : a.spot = none) (j : Nat) : a.add j = ⟨a.block, a.off + j, none⟩ := by
  obtain ⟨b, o, s⟩ := a; cases h; exact Addr.add_mid b o j

theorem Reads.add {w : World} {a : Addr} {n sz : Nat} {xs : List Value} (h : Reads w (some a) n sz xs) : ∀ j u, xs[j]? = some u → w.cell? (a.add j) = some u := by
  intro j u hu; obtain ⟨h1, h2⟩ := h.cell a rfl j u hu; rw [addr_add a h1]; exact h2

theorem Rd.elt {w0 : World} {L : List HP} {b off n : Nat} {xs : List Value} {k : Nat} {u : Value} (h : Rd w0 L (some ⟨b, off, none⟩) n 1 xs) (hu : xs[k]? = some u) : Cl w0 L ⟨b, off + k, none⟩ u :=
  fun w hs => ((h w hs).cell _ rfl k u hu).2

/-- A slice that the holder of the resource may grow and write: n elements of sz cells at the head of a block of its own, or nil. -/
def own (E : TypeId) (sz : Nat) (A : Option Addr) (c n : Nat) (xs : List Value) : HP := fun h =>
  xs.length = n * sz ∧ ((A = none ∧ n = 0 ∧ c = 0) ∨
    ∃ g cur, A = some ⟨g, 0, none⟩ ∧ h g = some (.cells cur E (0, 0)) ∧ n ≤ c ∧ c ≤ maxLen ∧ cur.size = c * sz ∧ cur.toList.take (n * sz) = xs)

theorem own_nil (E : TypeId) (sz : Nat) (h : Hl) : own E sz none 0 0 [] h := ⟨by simp, .inl ⟨rfl, rfl, rfl⟩⟩

theorem SatH.nil_cons {L : List HP} {h : Hl} {p : HP} (hp : p (fun _ => none)) (H : SatH L h) : SatH (p :: L) h :=
  ⟨fun _ => none, h, hp, H, fun _ _ _ e => (by cases e), fun _ _ e => (by cases e), Hl.le_refl _⟩

theorem Sat.own_nil {w0 w : World} {L : List HP} (h : Sat w0 w L) (E : TypeId) (sz : Nat) : Sat w0 w (own E sz none 0 0 [] :: L) := h.map fun _ H => SatH.nil_cons (Sl.own_nil E sz _) H

theorem Sat.own_inv {w0 w : World} {L : List HP} {E sz A c n xs} (h : Sat w0 w (own E sz A c n xs :: L)) :
    xs.length = n * sz ∧ ((A = none ∧ n = 0 ∧ c = 0) ∨ ∃ g cur, A = some ⟨g, 0, none⟩ ∧ Sat w0 w (blk g (.cells cur E (0, 0)) :: L) ∧ n ≤ c ∧ c ≤ maxLen ∧ cur.size = c * sz ∧ cur.toList.take (n * sz) = xs) := by
  obtain ⟨a, b, ⟨hl, hc⟩, h2⟩ := h.heap
  refine ⟨hl, ?_⟩
  rcases hc with hc | ⟨g, cur, hA, hg, h3, h4, h5, h6⟩
  · exact .inl hc
  · exact .inr ⟨g, cur, hA, ⟨h.os, h.tape, h.output, a, b, hg, h2⟩, h3, h4, h5, h6⟩

theorem Sat.own_cap {w0 w : World} {L : List HP} {E sz A c n xs} (h : Sat w0 w (own E sz A c n xs :: L)) : n ≤ c := by
  obtain ⟨_, ⟨_, h0, h1⟩ | ⟨g, _, _, _, h2, _⟩⟩ := h.own_inv <;> omega

theorem Sat.own_some {w0 w : World} {L : List HP} {E sz A c n xs} (h : Sat w0 w (own E sz A c n xs :: L)) (hn : 0 < n) : ∃ g, A = some ⟨g, 0, none⟩ := by
  obtain ⟨_, ⟨_, h0, _⟩ | ⟨g, _, h1, _⟩⟩ := h.own_inv
  · omega
  · exact ⟨g, h1⟩

theorem Sat.own_elim {w0 w : World} {L : List HP} {E sz A c n xs} (h : Sat w0 w (own E sz A c n xs :: L)) {G : Prop} (hn : 0 < n) (k : ∀ g, A = some ⟨g, 0, none⟩ → G) : G := by
  obtain ⟨g, hg⟩ := h.own_some hn
  exact k g hg

theorem Sat.own_mk {w0 w : World} {L : List HP} {E sz c n xs g cur} (h : Sat w0 w (blk g (.cells cur E (0, 0)) :: L)) (hx : xs.length = n * sz) (h3 : n ≤ c) (h4 : c ≤ maxLen) (h5 : cur.size = c * sz) (h6 : cur.toList.take (n * sz) = xs) :
    Sat w0 w (own E sz (some ⟨g, 0, none⟩) c n xs :: L) := h.to_head fun _ hb => ⟨hx, .inr ⟨g, cur, rfl, hb, h3, h4, h5, h6⟩⟩

theorem own_len {w0 w : World} {L : List HP} {E sz A c n xs} (h : Sat w0 w (own E sz A c n xs :: L)) : xs.length = n * sz := h.own_inv.1

/-- Its first k elements read. -/
theorem Rd.own_take {w0 : World} {L : List HP} {E sz A c n xs} (k : Nat) (hk : k ≤ n) : Rd w0 (own E sz A c n xs :: L) A k sz (xs.take (k * sz)) := by
  intro w hs
  obtain ⟨hx, hc⟩ := hs.own_inv
  have hks : k * sz ≤ n * sz := Nat.mul_le_mul_right _ hk
  refine ⟨by rw [List.length_take, hx]; omega, ?_, ?_⟩
  · rintro rfl
    rcases hc with ⟨_, h, _⟩ | ⟨g, cur, e, _⟩
    · omega
    · cases e
  · rintro a rfl
    rcases hc with ⟨e, _⟩ | ⟨g, cur, e, hb, h3, h4, h5, h6⟩
    · cases e
    · cases e
      refine fun j u hu => ⟨rfl, ?_⟩
      have hg := hb.get (.here _)
      rw [List.getElem?_take] at hu
      split at hu
      · rw [← h6, List.getElem?_take] at hu
        split at hu
        · simpa [World.cell?, hg] using hu
        · cases hu
      · cases hu

theorem Rd.own {w0 : World} {L : List HP} {E sz A c n xs} : Rd w0 (own E sz A c n xs :: L) A n sz xs := by
  intro w hs
  have hl := own_len hs
  have h := Rd.own_take (w0 := w0) (L := L) (E := E) (sz := sz) (A := A) (c := c) (xs := xs) n (Nat.le_refl _) w hs
  rwa [List.take_of_length_le (by omega)] at h

theorem Rd.blk {w0 : World} {L : List HP} {b : Nat} {cur : Array Value} {E : TypeId} {fr : Nat × Nat} {off n sz : Nat} (h : off + n * sz ≤ cur.size) :
    Rd w0 (blk b (.cells cur E fr) :: L) (some ⟨b, off, none⟩) n sz ((cur.toList.drop off).take (n * sz)) := by
  intro w hs
  refine ⟨by simp; omega, fun e => (by cases e), ?_⟩
  intro a e; cases e
  refine fun j u hu => ⟨rfl, ?_⟩
  have hg := hs.get (.here _)
  rw [List.getElem?_take] at hu
  split at hu
  · rw [List.getElem?_drop] at hu
    simpa [World.cell?, hg] using hu
  · cases hu

theorem Rd.row {w0 : World} {L : List HP} {b : Nat} {vs : List Value} {E : TypeId} {fr : Nat × Nat} {n : Nat} (h : vs.length = n) :
    Rd w0 (Sl.blk b (.cells vs.toArray E fr) :: L) (some ⟨b, 0, Option.none⟩) n 1 vs := by
  subst h
  have := Rd.blk (w0 := w0) (L := L) (b := b) (cur := vs.toArray) (E := E) (fr := fr) (off := 0) (n := vs.length) (sz := 1) (by simp)
  simpa using this

theorem Rd.some_of {w0 w : World} {L : List HP} {A n sz xs} (h : Rd w0 L A n sz xs) (hs : Sat w0 w L) (hn : 0 < n) (hz : 0 < sz := by omega) : ∃ b off, A = some ⟨b, off, Option.none⟩ := by
  cases A with
  | none => have := (h w hs).nil rfl; omega
  | some a =>
    obtain ⟨b, off, sp⟩ := a
    have hl := (h w hs).len
    have hp : 0 < xs.length := by rw [hl]; exact Nat.mul_pos hn hz
    have := ((h w hs).cell _ rfl 0 _ (List.getElem?_eq_getElem hp)).1
    cases this
    exact ⟨b, off, rfl⟩

theorem Rd.len {w0 w : World} {L : List HP} {A n sz xs} (h : Rd w0 L A n sz xs) (hs : Sat w0 w L) : xs.length = n * sz := (h w hs).len

theorem Rd.nil {w0 : World} {L : List HP} {sz : Nat} : Rd w0 L none 0 sz [] := fun _ _ => ⟨by simp, fun _ => rfl, fun _ e => by cases e⟩

theorem Rd.zero {w0 : World} {L : List HP} {sz : Nat} {b off : Nat} : Rd w0 L (some ⟨b, off, none⟩) 0 sz [] := fun _ _ => ⟨by simp, fun _ => rfl, fun a e => by cases e; exact fun j u hu => by cases hu⟩

theorem Cl.blk {w0 : World} {L : List HP} {b : Nat} {cur : Array Value} {E : TypeId} {fr : Nat × Nat} {off : Nat} {v : Value} (h : cur[off]? = some v) : Cl w0 (blk b (.cells cur E fr) :: L) ⟨b, off, none⟩ v := by
  intro w hs
  have hg := hs.get (.here _)
  simp [World.cell?, hg, h]

/-! ### The operations -/
section
variable {P : Program} {ops : Array Oper} {Q : Exit → Act → World → Prop} {rest : List Oper} {a : Act} {w0 w : World} {L : List HP}
variable {dst : Option Tmp} {ty : TypeId} {pos : String} {aft : Array Edge}

/-- An operation that runs to a value. -/
theorem wl_do {o : Oper} (hg : o.guard = none) {v : Value} {w' : World} (hr : (execOp a.eval o).run P w = .ok (.value v) w') (h : wpList P ops Q rest (a.put o.dst v) w') : wpList P ops Q (o :: rest) a w :=
  wpList_plain hg fun K hK => by unfold Oper.wp; rw [hr]; exact hK _ _ h

theorem wl_do_skip {o : Oper} (hg : o.guard = none) {w' : World} (hr : (execOp a.eval o).run P w = .ok .skip w') (h : wpList P ops Q rest (a.put o.dst undef) w') : wpList P ops Q (o :: rest) a w :=
  wpList_plain hg fun K hK => by unfold Oper.wp; rw [hr]; exact hK _ _ h

theorem wl_box {E : TypeId} {x : Operand} {v : Value} (hs : Sat w0 w L) (hv : a.eval x = v)
    (h : ∀ b w1, Sat w0 w1 (blk b (.cells v.cells E) :: L) → wpList P ops Q rest (a.put dst (.pointer (some ⟨b, 0, none⟩))) w1) :
    wpList P ops Q (⟨dst, .box E x, ty, pos, aft, none⟩ :: rest) a w := by
  refine wl_do rfl (v := .pointer (some ⟨w.heap.size, 0, none⟩)) (w' := w.alloc (.cells v.cells E)) ?_ (h _ _ (hs.alloc _))
  simp [execOp, Instr.box, newVar, newRow, hv]

theorem wl_alloc {E : TypeId} {z : Value} {sz by_ : Nat} [hi : Inf P E z sz by_] (hs : Sat w0 w L)
    (h : ∀ b w1, Sat w0 w1 (blk b (.cells z.cells E) :: L) → wpList P ops Q rest (a.put dst (.pointer (some ⟨b, 0, none⟩))) w1) :
    wpList P ops Q (⟨dst, .alloc E, ty, pos, aft, none⟩ :: rest) a w := by
  obtain ⟨i, h1, h2, h3, h4, h5⟩ := hi.h
  refine wl_do rfl (v := .pointer (some ⟨w.heap.size, 0, none⟩)) (w' := w.alloc (.cells z.cells E)) ?_ (h _ _ (hs.alloc _))
  simp [execOp, Instr.alloc, newVar, newRow, zeroValue, typeInfo, h1, h2]

/-- A load of one cell. -/
theorem wl_load {T : TypeId} {x : Operand} {ad : Addr} {v : Value} [hT : Scal P T] (hs : Sat w0 w L) (hx : a.eval x = .pointer (some ad)) (hc : Cl w0 L ad v)
    (h : wpList P ops Q rest (a.put dst v) w) : wpList P ops Q (⟨dst, .load T x, ty, pos, aft, none⟩ :: rest) a w := by
  obtain ⟨d, h1, h2⟩ := hT.h
  refine wl_do rfl (v := v) (w' := w) ?_ h
  have hagg : (isAgg T).run P w = .ok false w := by
    unfold isAgg
    rw [Sem.run_bind, run_underlying h1 w]
    cases d <;> simp_all
  simp [execOp, hx, Instr.loadAt, Instr.sureAddr, loadVar, hagg, load, Sem.run, hc w hs]

/-- A load of a struct or an array. -/
theorem wl_loadAgg {T : TypeId} {x : Operand} {b off n : Nat} {cur : Array Value} {E : TypeId} {fr : Nat × Nat} {L' : List HP} {cs : List Value} [hT : AggT P T n] (hs : Sat w0 w L) (hx : a.eval x = .pointer (some ⟨b, off, none⟩))
    (ho : Out (blk b (.cells cur E fr)) L L') (hn : off + n ≤ cur.size) (hcs : (cur.toList.drop off).take n = cs)
    (h : wpList P ops Q rest (a.put dst (.agg cs.toArray)) w) : wpList P ops Q (⟨dst, .load T x, ty, pos, aft, none⟩ :: rest) a w := by
  obtain ⟨⟨d, h1, h2⟩, h3⟩ := hT.h
  subst hcs
  have hg := hs.get ho
  have hlen : ((cur.toList.drop off).take n).length = n := by simp; omega
  refine wl_do rfl (v := .agg ((cur.toList.drop off).take n).toArray) (w' := w) ?_ h
  have hl := run_loadAt_mid (P := P) w b off T ((cur.toList.drop off).take n) d (fun j v hv => by
    rw [List.getElem?_take] at hv
    split at hv
    · rw [List.getElem?_drop] at hv
      simpa [World.cell?, hg] using hv
    · cases hv) h1 h2 (by rw [h3, hlen])
  simp only [execOp, hx, Sem.run_bind, hl, Result.andThen_ok, Sem.run_pure]

/-- cs written from offset off on -/
def upd (cur : Array Value) (off : Nat) (cs : List Value) : Array Value := (cur.toList.take off ++ cs ++ cur.toList.drop (off + cs.length)).toArray

theorem upd_size {cur : Array Value} {off : Nat} {cs : List Value} (h : off + cs.length ≤ cur.size) : (upd cur off cs).size = cur.size := by
  simp [upd]; omega

theorem run_store_row {T : TypeId} {b off n : Nat} {cur : Array Value} {E : TypeId} {v : Value} {z : Value} {by_ : Nat} [hi : Inf P T z n by_] (hg : w.heap[b]? = some (.cells cur E (0, 0)))
    (hn : v.cells.size = n) (h1 : ∀ u ∈ v.cells.toList, u.oneCell' = true) (hfit : off + n ≤ cur.size) :
    (Instr.storeAt T (.pointer (some ⟨b, off, none⟩)) v).run P w = .ok () (w.setRow b (upd cur off v.cells.toList)) := by
  obtain ⟨i, g1, g2, g3, g4, g5⟩ := hi.h
  have := run_storeCells_at P b off E v.cells.toList 0 cur w hg (by simp; omega) h1
  simp only [Nat.add_zero] at this
  simp [Instr.storeAt, Instr.sureAddr, storeVar, Go.sizeOf, typeInfo, g1, g3, hn, this, upd]

theorem Sat.setRow {b : Nat} {cur cur' : Array Value} {E : TypeId} {fr : Nat × Nat} {L' : List HP} (h : Sat w0 w L) (hr : Rep (blk b (.cells cur E fr)) (blk b (.cells cur' E fr)) L L') : Sat w0 (w.setRow b cur') L' := by
  obtain ⟨M, ho, _⟩ := hr.out
  have hg := h.get ho
  exact h.put_at hr (setRow_heap w b cur cur' E fr hg) (fun k hk _ => setRow_other w b k cur' hk) rfl rfl rfl

/-- A store into a block. -/
theorem wl_store {T : TypeId} {x y : Operand} {b off n : Nat} {cur : Array Value} {E : TypeId} {v z : Value} {by_ : Nat} {L' : List HP} [hi : Inf P T z n by_] (hs : Sat w0 w L) (hx : a.eval x = .pointer (some ⟨b, off, none⟩)) (hy : a.eval y = v)
    (ho : Out (blk b (.cells cur E (0, 0))) L L') (hn : v.cells.size = n) (h1 : ∀ u ∈ v.cells.toList, u.oneCell' = true) (hfit : off + n ≤ cur.size)
    (h : ∀ w1, Sat w0 w1 (blk b (.cells (upd cur off v.cells.toList) E (0, 0)) :: L') → wpList P ops Q rest (a.put dst undef) w1) : wpList P ops Q (⟨dst, .store T x y, ty, pos, aft, none⟩ :: rest) a w := by
  have hg := hs.get ho
  refine wl_do_skip rfl ?_ (h _ ((hs.out ho).setRow (.here _)))
  simp only [execOp, hx, hy, Sem.run_bind, run_store_row (P := P) (T := T) hg hn h1 hfit, Result.andThen_ok, Sem.run_pure]

/-- A store of one cell. -/
theorem wl_store1 {T : TypeId} {x y : Operand} {b off : Nat} {cur : Array Value} {E : TypeId} {v z : Value} {by_ : Nat} {L' : List HP} [hi : Inf P T z 1 by_] (hs : Sat w0 w L) (hx : a.eval x = .pointer (some ⟨b, off, none⟩)) (hy : a.eval y = v)
    (ho : Out (blk b (.cells cur E (0, 0))) L L') (hn : v.cells = #[v]) (h1 : v.oneCell' = true) (hfit : off < cur.size)
    (h : ∀ w1, Sat w0 w1 (blk b (.cells (cur.setIfInBounds off v) E (0, 0)) :: L') → wpList P ops Q rest (a.put dst undef) w1) : wpList P ops Q (⟨dst, .store T x y, ty, pos, aft, none⟩ :: rest) a w := by
  have e : upd cur off v.cells.toList = cur.setIfInBounds off v := by
    rw [hn]; apply Array.ext'; simp [upd, List.set_eq_take_append_cons_drop]; intro h; omega
  exact wl_store hs hx hy ho (by rw [hn]; rfl) (by rw [hn]; simpa using h1) hfit (by rw [e]; exact h)

/-- A store into an element of a slice of one's own. -/
theorem wl_store_own {T : TypeId} {x y : Operand} {b i c n : Nat} {xs : List Value} {E : TypeId} {v z : Value} {by_ : Nat} {L' : List HP} [hi : Inf P T z 1 by_] (hs : Sat w0 w L) (hx : a.eval x = .pointer (some ⟨b, i, none⟩)) (hy : a.eval y = v)
    (ho : Out (own E 1 (some ⟨b, 0, none⟩) c n xs) L L') (hn : v.cells = #[v]) (h1 : v.oneCell' = true) (hlt : i < n)
    (h : ∀ w1, Sat w0 w1 (own E 1 (some ⟨b, 0, none⟩) c n (xs.set i v) :: L') → wpList P ops Q rest (a.put dst undef) w1) : wpList P ops Q (⟨dst, .store T x y, ty, pos, aft, none⟩ :: rest) a w := by
  obtain ⟨hl, hc⟩ := (hs.out ho).own_inv
  rcases hc with ⟨e, _⟩ | ⟨g, cur, e, hb, h3, h4, h5, h6⟩
  · cases e
  · cases e
    refine wl_store1 hb hx hy (.here _) hn h1 (by omega) fun w1 hw => h w1 ?_
    refine Sat.own_mk hw (by simpa using hl) h3 h4 (by simpa using h5) ?_
    simp only [Nat.mul_one] at h6 ⊢
    rw [← h6]
    simp [List.take_set]

theorem fill_ones {place : Nat → Option (Nat × Nat)} (hp : ∀ i, place i = some (i, 1)) : ∀ (vs : List Value) (k : Nat) (cells : Array Value), (∀ v ∈ vs, v.cells = #[v]) → k + vs.length ≤ cells.size →
    Instr.fill place cells (vs.zipIdx k |>.map fun x => (x.2, x.1)) = some (cells.toList.take k ++ vs ++ cells.toList.drop (k + vs.length)).toArray
  | [], k, cells, _, _ => by simp [Instr.fill]
  | v :: vs, k, cells, h1, hk => by
    have hv := h1 v (by simp)
    simp only [List.length_cons] at hk
    have hd : ¬ (k + 1 > cells.size) := by omega
    have ih := fill_ones hp vs (k + 1) (cells.setIfInBounds k v) (fun u hu => h1 u (by simp [hu])) (by simp; omega)
    simp only [List.zipIdx_cons, List.map_cons, Instr.fill, hp, hv]
    simp only [List.size_toArray, List.length_cons, List.length_nil, Nat.zero_add, ne_eq, not_true_eq_false, decide_false, Bool.false_or, decide_eq_true_eq, gt_iff_lt]
    rw [if_neg (by omega)]
    have hz : (#[v] : Array Value).zipIdx = #[(v, 0)] := by simp [Array.zipIdx]
    rw [hz]
    simp only [List.foldl_toArray, List.foldl_cons, List.foldl_nil, Nat.add_zero]
    rw [ih]
    congr 1
    apply Array.ext'
    simp only [Array.toList_setIfInBounds]
    have e := list_seg_step cells.toList k v vs (by simp; omega)
    rw [show k + (vs.length + 1) = k + 1 + vs.length from by omega] at e
    simpa [show k + (vs.length + 1) = k + 1 + vs.length from by omega] using e

/-- 'T{v0, v1, ..}', a slice all of whose elements are given, each of one cell. -/
theorem wl_buildSlice {T E : TypeId} {n : Nat} {parts : Array (Nat × Operand)} {vs : List Value} {z : Value} {by_ : Nat} [hT : SlT P T E] [hi : Inf P E z 1 by_] (hs : Sat w0 w L)
    (hp : parts.toList.map (fun x => x.1) = List.range n) (hvs : parts.toList.map (fun x => a.eval x.2) = vs) (h1 : ∀ v ∈ vs, v.cells = #[v]) (hb : n ≤ 65536)
    (h' : ∀ b w1, Sat w0 w1 (own E 1 (some ⟨b, 0, none⟩) n n vs :: L) → wpList P ops Q rest (a.put dst (.slice (some ⟨b, 0, none⟩) n n)) w1) :
    wpList P ops Q (⟨dst, .buildSlice T n parts, ty, pos, aft, none⟩ :: rest) a w := by
  have hn0 : vs.length = n := by rw [← hvs]; have := congrArg List.length hp; simpa using this
  have h : ∀ b w1, Sat w0 w1 (blk b (.cells vs.toArray E (0, 0)) :: L) → wpList P ops Q rest (a.put dst (.slice (some ⟨b, 0, none⟩) n n)) w1 := fun b w1 hw =>
    h' b w1 (Sat.own_mk hw (by omega) (Nat.le_refl _) (by simp only [maxLen]; omega) (by simp; omega) (by rw [Nat.mul_one, ← hn0]; simp))
  have hn : vs.length = n := by rw [← hvs]; have := congrArg List.length hp; simpa using this
  have hv : (parts.map fun x => (x.1, a.eval x.2)).toList = vs.zipIdx.map fun x => (x.2, x.1) := by
    rw [← hvs]
    apply List.ext_getElem?
    intro k
    have hk := congrArg (fun l => l[k]?) hp
    simp only [List.getElem?_map, List.getElem?_zipIdx, Array.toList_map] at hk ⊢
    cases hq : parts.toList[k]? with
    | none => simp
    | some x =>
      have hkn : k < n := by
        have := (List.getElem?_eq_some_iff.1 hq).1
        have e := congrArg List.length hp
        simp at e this; omega
      rw [hq] at hk
      simp [List.getElem?_range hkn] at hk
      simp [hk]
  obtain ⟨i, g1, g2, g3, g4, g5⟩ := hi.h
  subst hn
  have hlen : ∀ k, ((Array.range k).map fun j => z.cells[j % z.cells.size]!).size = k := fun k => by simp
  have hf := fill_ones (place := fun j => some (j * 1, 1)) (fun i => by simp) vs 0 ((Array.range vs.length).map fun j => z.cells[j % z.cells.size]!) h1 (by simp)
  have e0 : ((#[] : Array Value)).size = 0 := rfl
  refine wl_do rfl (v := .slice (some ⟨w.heap.size, 0, none⟩) vs.length vs.length) (w' := w.alloc (.cells vs.toArray E)) ?_ (h _ _ (hs.alloc _))
  have hz : ¬ (16777216 < vs.length) := by omega
  have hv' : List.map (fun x => (x.1, a.eval x.2)) parts.toList = vs.zipIdx.map fun x => (x.2, x.1) := by rw [← hv]; simp
  simp only [List.take_zero, List.nil_append, Nat.zero_add] at hf
  rw [List.drop_eq_nil_of_le (by simp)] at hf
  simp only [List.append_nil, Nat.mul_one] at hf
  by_cases h0 : vs = []
  · subst h0
    simp [execOp, Instr.buildSlice, run_underlying hT.h, Go.sizeOf, typeInfo, g1, newRow, hv', Instr.fill, show Array.range 0 = #[] from rfl]
  · have h0' : ¬ vs.length = 0 := by simpa using h0
    simp [execOp, Instr.buildSlice, run_underlying hT.h, Go.sizeOf, typeInfo, zeroValue, newRow, g1, g2, g3, h0, hz, hv', hf]
end

/-! ### Append -/
section
variable {P : Program} {w0 w : World} {L M : List HP}

theorem sem_append {T t' E : TypeId} {sz by_ : Nat} {z : Value} [hT : SlT P T E] [hi : Inf P E z sz by_] {A : Option Addr} {c n : Nat} {xs : List Value} {B : Option Addr} {m d : Nat} {news : List Value}
    (hs : Sat w0 w (own E sz A c n xs :: L)) (hr : Rd w0 (own E sz A c n xs :: L) B m sz news) (h1 : ∀ u ∈ news, u.oneCell' = true) (hm : n + m ≤ maxLen) (hby : (n + m) * by_ ≤ 140737488355328) :
    ∃ A' c' w', (Builtin.append_ #[T, T] t' #[.slice A n c, .slice B m d]).run P w = .ok (.slice A' (n + m) c') w' ∧ Sat w0 w' (own E sz A' c' (n + m) (xs ++ news) :: L) ∧ (0 < n → m = 0 → A' = A) := by
  obtain ⟨i, g1, g2, rfl, rfl, g5⟩ := hi.h
  have hrd := hr w hs
  obtain ⟨hl, hc⟩ := hs.own_inv
  have hlen : (xs ++ news).length = (n + m) * i.size := by rw [List.length_append, hl, hrd.len, Nat.add_mul]
  have hsmall : n + m ≤ 9223372036854775807 := by simp only [maxLen] at hm; omega
  cases B with
  | none =>
    have hm0 : m = 0 := hrd.nil rfl
    subst hm0
    have hn0 : news = [] := by have := hrd.len; simpa using this
    subst hn0
    refine ⟨A, c, w, ?_, by simpa using hs, fun _ _ => rfl⟩
    have hcap : n ≤ c := by rcases hc with ⟨_, rfl, rfl⟩ | ⟨_, _, _, _, h3, _⟩ <;> omega
    have hf : (Builtin.firstCells i.size 0 (.slice none 0 d)).run P w = .ok #[] w := by simp [Builtin.firstCells]
    cases A with
    | none => simp [Builtin.append_, run_underlying hT.h, Go.sizeOf, typeInfo, g1, Builtin.lenOf, hcap, Builtin.firstCells]
    | some ad => simp [Builtin.append_, run_underlying hT.h, Go.sizeOf, typeInfo, g1, Builtin.lenOf, hcap, Builtin.firstCells, storeCells]
  | some bd =>
    have hnews := hrd.add
    have grow : ∀ old, old < n + m → Sat w0 (w.drew.alloc (.cells (xs.toArray ++ news.toArray ++ Builtin.zeroCells z.cells (grownCap w (n + m) old E - (n + m))) E))
        (own E i.size (some ⟨w.heap.size, 0, none⟩) (grownCap w (n + m) old E) (n + m) (xs ++ news) :: L) := by
      intro old ho
      have hge := grownCap_ge w (n + m) old E
      have hcm : grownCap w (n + m) old E ≤ maxLen := grownCap_le_maxLen w (n + m) old E hm
      have hb := (hs.tail.drew).alloc (.cells (xs.toArray ++ news.toArray ++ Builtin.zeroCells z.cells (grownCap w (n + m) old E - (n + m))) E)
      refine Sat.own_mk hb hlen hge hcm ?_ ?_
      · simp only [Array.size_append, List.size_toArray, size_zeroCells, g5, hl, hrd.len, ← Nat.add_mul]
        congr 1
        omega
      · simp only [Array.toList_append, List.append_assoc]
        rw [← List.append_assoc, ← hlen]
        exact List.take_left
    rcases hc with ⟨rfl, rfl, rfl⟩ | ⟨g, cur, rfl, hb, h3, h4, h5, h6⟩
    · have hx : xs = [] := List.eq_nil_of_length_eq_zero (by simpa using hl)
      subst hx
      by_cases hm0 : m = 0
      · subst hm0
        have hn : news = [] := List.eq_nil_of_length_eq_zero (by simpa using hrd.len)
        subst hn
        refine ⟨none, 0, w, ?_, hs, fun h => absurd h (by omega)⟩
        simp [Builtin.append_, run_underlying hT.h, Go.sizeOf, typeInfo, g1, Builtin.lenOf, Builtin.firstCells, loadCells, loadCellsFrom]
      · have hr := run_append_nil (P := P) w T t' E i z hT.h g1 g2 bd m d news hrd.len hnews (by omega) (by omega) (by have := hby; simp only [Nat.zero_add] at this; omega)
        have hg := grow 0 (by omega)
        simp only [Nat.zero_add, List.nil_append, Array.empty_append] at hg ⊢
        exact ⟨_, _, _, hr, hg, fun h => absurd h (by omega)⟩
    · by_cases hroom : n + m ≤ c
      · have hfit : n * i.size + news.length ≤ cur.size := by rw [hrd.len, h5, ← Nat.add_mul]; exact Nat.mul_le_mul_right _ hroom
        have hg := hb.get (.here _)
        have hr := run_append_room (P := P) w T t' E i hT.h g1 g n c cur hg bd m d news hrd.len hnews h1 hroom hfit
        refine ⟨_, _, _, hr, Sat.own_mk (hb.setRow (.here _)) hlen hroom h4 ?_ ?_, fun _ _ => rfl⟩
        · simp only [List.size_toArray, List.length_append, List.length_take, List.length_drop, Array.length_toList]
          omega
        · rw [h6, ← hlen]
          exact List.take_left
      · have hro := (Rd.own (w0 := w0) (L := L) w hs).add
        have hr := run_append_grow (P := P) w T t' E i z hT.h g1 g2 ⟨g, 0, none⟩ n c xs hl hro bd m d news hrd.len hnews (by omega) (by omega) (growslice_fits (by omega) hby)
        exact ⟨_, _, _, hr, grow c (by omega), fun h e => absurd hroom (by omega)⟩

variable {ops : Array Oper} {Q : Exit → Act → World → Prop} {rest : List Oper} {a : Act}
variable {dst : Option Tmp} {ty : TypeId} {pos : String} {aft : Array Edge}

/-- append(s, x...) on a slice of one's own. -/
theorem wl_append {T E : TypeId} {sz by_ : Nat} {z : Value} [hT : SlT P T E] [hi : Inf P E z sz by_] {s x : Operand} {A : Option Addr} {c n : Nat} {xs : List Value} {B : Option Addr} {m d : Nat} {news : List Value}
    (hs : Sat w0 w L) (hv : a.eval s = .slice A n c) (hx : a.eval x = .slice B m d)
    (ho : Out (own E sz A c n xs) L M) (hr : Rd w0 L B m sz news) (h1 : ∀ u ∈ news, u.oneCell' = true) (hm : n + m ≤ maxLen) (hby : (n + m) * by_ ≤ 140737488355328)
    (h : ∀ A' c' w1, Sat w0 w1 (own E sz A' c' (n + m) (xs ++ news) :: M) → n + m ≤ c' → wpList P ops Q rest (a.put dst (.slice A' (n + m) c')) w1) :
    wpList P ops Q (⟨dst, .call { callee := .builtin .append, args := #[s, x], argTypes := #[T, T] }, ty, pos, aft, none⟩ :: rest) a w := by
  obtain ⟨A', c', w', hrun, hsat, _⟩ := sem_append (P := P) (T := T) (t' := ty) (d := d) (hs.out ho) (fun w hw => hr w (hw.into ho)) h1 hm hby
  refine wl_do rfl ?_ (h _ _ _ hsat hsat.own_cap)
  simp only [execOp, resolve, invoke, builtin, Sem.run_bind, Sem.run_pure, Result.andThen_ok, List.map_toArray, List.map_cons, List.map_nil, hv, hx, hrun]

#print axioms wl_append
end
end Sl

/-
  More rules of the separation logic: bytes and strings, append of zeros. No Go program in it.
-/
namespace Sl
open Go Go.RowKit

def b8 (c : UInt8) : Value := .int .u8 (c.toNat : Int)
def B8 (l : List UInt8) : List Value := l.map b8
theorem B8_length (l : List UInt8) : (B8 l).length = l.length := by simp [B8]
theorem b8_ofNat (n : Nat) : b8 (UInt8.ofNat n) = .int .u8 ((n : Int) % 256) := by simp [b8]
theorem B8_one (l : List UInt8) : ∀ u ∈ B8 l, u.oneCell' = true := by intro u hu; simp [B8] at hu; obtain ⟨c, _, rfl⟩ := hu; rfl
theorem B8_app (l m : List UInt8) : B8 (l ++ m) = B8 l ++ B8 m := by simp [B8]
theorem B8_nil : B8 [] = [] := rfl
theorem B8_cons (c : UInt8) (l : List UInt8) : B8 (c :: l) = b8 c :: B8 l := rfl
theorem B8_take (l : List UInt8) (k : Nat) : B8 (l.take k) = (B8 l).take k := by simp [B8]
theorem B8_drop (l : List UInt8) (k : Nat) : B8 (l.drop k) = (B8 l).drop k := by simp [B8]

section
variable {P : Program} {ops : Array Oper} {Q : Exit → Act → World → Prop} {rest : List Oper} {a : Act} {w0 w : World} {L : List HP}
variable {dst : Option Tmp} {ty : TypeId} {pos : String} {aft : Array Edge}

/-- A guarded operation whose guard says yes goes as any. -/
theorem wl_unguard {op : Op} {g : Nat × Bool} (hw : Region.wanted ⟨dst, op, ty, pos, aft, some g⟩ (yielded ops a.tmps) = true) (h : wpList P ops Q (⟨dst, op, ty, pos, aft, none⟩ :: rest) a w) :
    wpList P ops Q (⟨dst, op, ty, pos, aft, some g⟩ :: rest) a w := by
  unfold wpList at h ⊢
  rw [if_pos (by rfl)] at h
  rw [if_pos hw]
  exact h

/-- string(b) -/
theorem conv_b2s {S D E : TypeId} [hS : SlT P S E] [hE : U8T P E] [hD : StrT P D] {A : Option Addr} {n c : Nat} {l : List UInt8} (h : Rd w0 L A n 1 (B8 l)) (hs : Sat w0 w L) :
    (convert S D (.slice A n c)).run P w = .ok (.string ⟨l.toArray⟩) w := by
  have hr := h w hs
  have hn : n = l.length := by have := hr.len; simp [B8_length] at this; omega
  subst hn
  cases A with
  | none =>
    have h0 := hr.nil rfl
    have : l = [] := List.eq_nil_of_length_eq_zero h0
    subst this
    simp [convert, run_underlying hS.h, run_underlying hD.h, run_underlying hE.h, Conv.bytesToString]
    rfl
  | some ad =>
    refine run_convert_bytes_back w S D E ad c l hS.h hE.h hD.h fun j hj => ?_
    refine hr.add j _ ?_
    simp [B8, b8, hj]

theorem wl_b2s {S D E : TypeId} [hS : SlT P S E] [hE : U8T P E] [hD : StrT P D] {x : Operand} {A : Option Addr} {n c : Nat} {xs : List Value} {l : List UInt8} (hs : Sat w0 w L) (hx : a.eval x = .slice A n c) (hr : Rd w0 L A n 1 xs) (hl : xs = B8 l)
    (h : wpList P ops Q rest (a.put dst (.string ⟨l.toArray⟩)) w) : wpList P ops Q (⟨dst, .convert S D x, ty, pos, aft, none⟩ :: rest) a w := by
  subst hl
  refine wl_do rfl (v := .string ⟨l.toArray⟩) (w' := w) ?_ h
  simp [execOp, hx, conv_b2s hr hs]

theorem zeroCells_one (z : Value) (k : Nat) : (Builtin.zeroCells #[z] k).toList = List.replicate k z := by
  apply List.ext_getElem
  · simp [size_zeroCells]
  · intro j h1 h2
    simp [Builtin.zeroCells, Nat.mod_one]

/-- append(nil, make([]T, k)...) -/
theorem wl_appendZeros {T N E : TypeId} {by_ k : Nat} {z : Value} {s x : Operand} {kd : IntKind} [hT : SlT P T E] [hi : Inf P E z 1 by_] (hs : Sat w0 w L) (hv : a.eval s = .slice none 0 0) (hx : a.eval x = .int .i64 k)
    (hN : P.underlying N = some (.int kd)) (hz : z.cells = #[z]) (hk : 0 < k) (hm : k ≤ 4611686018427387904) (hby : k * by_ ≤ 140737488355328)
    (h : ∀ A' c' w1, Sat w0 w1 (own E 1 A' c' k (List.replicate k z) :: L) → wpList P ops Q rest (a.put dst (.slice A' k c')) w1) :
    wpList P ops Q (⟨dst, .call { callee := .builtin .append, args := #[s, x], argTypes := #[T, N] }, ty, pos, aft, none⟩ :: rest) a w := by
  obtain ⟨i, g1, g2, g3, rfl, g5⟩ := hi.h
  have hw : IntKind.i64.wrap (k : Int) = k := by simp [IntKind.wrap, IntKind.bits, IntKind.signed]; omega
  have h1 : ¬ ((k : Int) < 0) := by omega
  have h2 : ¬ ((k : Int) * (i.bytes : Int) > 281474976710656) := by
    have : ((k * i.bytes : Nat) : Int) ≤ 140737488355328 := by omega
    simp at this; omega
  have h3 : ¬ (k = 0) := by omega
  have h4 : ¬ ((k : Int) > 9223372036854775807) := by omega
  have h5 : ¬ (Builtin.nextslicecap k 0 * i.bytes > 281474976710656) := by rw [nextslicecap_zero hk]; omega
  have hcap := grownCap_ge w k 0 E
  have hcm : grownCap w k 0 E ≤ maxLen := grownCap_le_maxLen w k 0 E (by simp only [maxLen]; omega)
  let cells := Builtin.zeroCells #[z] k ++ Builtin.zeroCells #[z] (grownCap w k 0 E - k)
  have hrun : (Builtin.append_ #[T, N] ty #[.slice none 0 0, .int .i64 k]).run P w = .ok (.slice (some ⟨w.heap.size, 0, none⟩) k (grownCap w k 0 E)) (w.drew.alloc (.cells cells E)) := by
    simp [Builtin.append_, run_underlying hT.h, run_underlying hN, Go.sizeOf, typeInfo, zeroValue, g1, g2, g3, hz, asInt, asIntOf, hw, h1, h2, h3, h4, h5, Question.forced, Builtin.firstCells, newRow, grownCap, cells]
  refine wl_do rfl ?_ (h (some ⟨w.heap.size, 0, none⟩) (grownCap w k 0 E) _ (Sat.own_mk (hs.drew.alloc (.cells cells E)) ?_ hcap hcm ?_ ?_))
  · simp only [execOp, resolve, invoke, builtin, Sem.run_bind, Sem.run_pure, Result.andThen_ok, List.map_toArray, List.map_cons, List.map_nil, hv, hx, hrun]
  · simp
  · simp only [cells, Array.size_append, size_zeroCells, List.size_toArray, List.length_cons, List.length_nil, ← Nat.add_mul]; congr 1; omega
  · simp only [cells, Array.toList_append, zeroCells_one, Nat.mul_one]
    rw [List.take_append_of_le_length (by simp), List.take_of_length_le (by simp)]

/-- A' is the window of A from l to h. -/
def Win (A A' : Option Addr) (n l h : Nat) : Prop := ∀ (w0 : World) (L : List HP) (xs : List Value), Rd w0 L A n 1 xs → Rd w0 L A' (h - l) 1 ((xs.drop l).take (h - l))

theorem win_of (A : Option Addr) (n c l h : Nat) (h1 : l ≤ h) (h2 : h ≤ n) (h3 : n ≤ c) : Win A (if c = l then A else A.map (·.add l)) n l h := by
  intro w0 L xs hr w hs
  have r := hr w hs
  have hlen : ((xs.drop l).take (h - l)).length = (h - l) * 1 := by have := r.len; simp; omega
  refine ⟨hlen, ?_, ?_⟩
  · intro e
    have : A = none := by
      split at e
      · exact e
      · cases A with
        | none => rfl
        | some a => cases e
    have := r.nil this
    omega
  · intro a e j u hu
    have hj : j < h - l := by have := (List.getElem?_eq_some_iff.1 hu).1; omega
    have hne : ¬ c = l := by omega
    rw [if_neg hne] at e
    cases A with
    | none => cases e
    | some b =>
      cases e
      rw [List.getElem?_take, if_pos hj, List.getElem?_drop] at hu
      obtain ⟨g1, g2⟩ := r.cell b rfl _ _ hu
      show (b.add l).spot = none ∧ w.cell? ⟨(b.add l).block, (b.add l).off + j, none⟩ = some u
      rw [addr_add b g1]
      exact ⟨rfl, by simpa [Nat.add_assoc] using g2⟩

theorem wl_sliceLo {T E : TypeId} {z : Value} {by_ : Nat} {x lo : Operand} {A : Option Addr} {n c : Nat} {li : Int} [hT : SlT P T E] [hi : Inf P E z 1 by_] (l : Nat) (hx : a.eval x = .slice A n c) (hl' : a.eval lo = .int .i64 li) (hli : li = (l : Int)) (h1 : l ≤ n) (h2 : n ≤ c)
    (h : ∀ A', Win A A' n l n → wpList P ops Q rest (a.put dst (.slice A' (n - l) (c - l))) w) : wpList P ops Q (⟨dst, .slice T x (some lo) none none, ty, pos, aft, none⟩ :: rest) a w := by
  have hl : a.eval lo = .int .i64 l := by rw [hl', hli]
  obtain ⟨i, g1, g2, g3, g4, g5⟩ := hi.h
  refine wl_do rfl ?_ (h _ (win_of A n c l n h1 (Nat.le_refl _) h2))
  have e1 : (0 : Int) ≤ (l : Int) ∧ (l : Int) ≤ (n : Int) := by omega
  simp [execOp, hx, hl, Instr.sliceAt, Instr.slice, Instr.sliceBounds, Instr.sliceBound, asIntOf, run_underlying hT.h, Go.sizeOf, typeInfo, g1, g3, e1]
  intro h; omega

theorem wl_sliceHi {T E : TypeId} {z : Value} {by_ : Nat} {x hi' : Operand} {A : Option Addr} {n c : Nat} {ki : Int} [hT : SlT P T E] [hi : Inf P E z 1 by_] (k : Nat) (hx : a.eval x = .slice A n c) (hl' : a.eval hi' = .int .i64 ki) (hki : ki = (k : Int)) (h1 : k ≤ n) (h2 : n ≤ c)
    (h : ∀ A', Win A A' n 0 k → wpList P ops Q rest (a.put dst (.slice A' k c)) w) : wpList P ops Q (⟨dst, .slice T x none (some hi') none, ty, pos, aft, none⟩ :: rest) a w := by
  have hl : a.eval hi' = .int .i64 k := by rw [hl', hki]
  obtain ⟨i, g1, g2, g3, g4, g5⟩ := hi.h
  refine wl_do rfl ?_ (h _ (win_of A n c 0 k (Nat.zero_le _) h1 h2))
  have e1 : (0 : Int) ≤ (k : Int) ∧ (k : Int) ≤ (c : Int) := by omega
  simp [execOp, hx, hl, Instr.sliceAt, Instr.slice, Instr.sliceBounds, Instr.sliceBound, asIntOf, run_underlying hT.h, Go.sizeOf, typeInfo, g1, e1]
  intro h; omega

theorem wl_sliceLH {T E : TypeId} {z : Value} {by_ : Nat} {x lo hi' : Operand} {A : Option Addr} {n c : Nat} {li ki : Int} [hT : SlT P T E] [hi : Inf P E z 1 by_] (l k : Nat) (hx : a.eval x = .slice A n c) (hl' : a.eval lo = .int .i64 li) (hh' : a.eval hi' = .int .i64 ki) (hli : li = (l : Int)) (hki : ki = (k : Int)) (h0 : l ≤ k) (h1 : k ≤ n) (h2 : n ≤ c)
    (h : ∀ A', Win A A' n l k → wpList P ops Q rest (a.put dst (.slice A' (k - l) (c - l))) w) : wpList P ops Q (⟨dst, .slice T x (some lo) (some hi') none, ty, pos, aft, none⟩ :: rest) a w := by
  have hl : a.eval lo = .int .i64 l := by rw [hl', hli]
  have hh : a.eval hi' = .int .i64 k := by rw [hh', hki]
  obtain ⟨i, g1, g2, g3, g4, g5⟩ := hi.h
  refine wl_do rfl ?_ (h _ (win_of A n c l k h0 h1 h2))
  have e1 : (0 : Int) ≤ (k : Int) ∧ (k : Int) ≤ (c : Int) := by omega
  have e2 : (0 : Int) ≤ (l : Int) ∧ (l : Int) ≤ (k : Int) := by omega
  simp [execOp, hx, hl, hh, Instr.sliceAt, Instr.slice, Instr.sliceBounds, Instr.sliceBound, asIntOf, run_underlying hT.h, Go.sizeOf, typeInfo, g1, g3, e1, e2]
  rw [if_pos (by omega), if_pos (by omega)]
#print axioms wl_appendZeros
end
end Sl
