/-
  A small separation logic over the model's heap: what is known of the heap is one list of resources, each with blocks of its own. No Go program in it.
-/
import Derived.WalkKit
import Derived.Deep.MidRow
import Derived.Laws.IdiomStrings
import Derived.Laws.BytesString
namespace Sl
open Go

/-- A piece of a heap. -/
abbrev Hl := Nat → Option Obj
abbrev HP := Hl → Prop
def Hl.le (a b : Hl) : Prop := ∀ k o, a k = some o → b k = some o
def Hl.dj (a b : Hl) : Prop := ∀ k o o', a k = some o → b k = some o' → False
def Hl.un (a b : Hl) : Hl := fun k => match a k with | some o => some o | none => b k

theorem Hl.le_refl (a : Hl) : a.le a := fun _ _ h => h
theorem Hl.le.trans {a b c : Hl} (h : a.le b) (k : b.le c) : a.le c := fun i o hi => k i o (h i o hi)
theorem Hl.dj_symm {a b : Hl} (h : a.dj b) : b.dj a := fun k o o' h1 h2 => h k o' o h2 h1
theorem Hl.dj_le {a b c d : Hl} (h : a.dj b) (h1 : c.le a) (h2 : d.le b) : c.dj d := fun k o o' e1 e2 => h k o o' (h1 _ _ e1) (h2 _ _ e2)
theorem Hl.le_un {a b : Hl} : a.le (a.un b) := fun k o h => by simp [Hl.un, h]
theorem Hl.le_un' {a b : Hl} (h : a.dj b) : b.le (a.un b) := fun k o hb => by
  unfold Hl.un
  cases ha : a k with
  | none => exact hb
  | some o' => exact (h k o' o ha hb).elim

theorem Hl.un_le {a b c : Hl} (h : a.le c) (k : b.le c) : (a.un b).le c := fun i o hi => by
  unfold Hl.un at hi
  cases ha : a i with
  | none => rw [ha] at hi; exact k i o hi
  | some o' => rw [ha] at hi; cases hi; exact h i _ ha

theorem Hl.un_dj {a b c : Hl} (h : a.dj c) (k : b.dj c) : (a.un b).dj c := fun i o o' h1 h2 => by
  unfold Hl.un at h1
  cases ha : a i with
  | none => rw [ha] at h1; exact k i o o' h1 h2
  | some p => exact h i p o' ha h2

/-- All the resources of a list, each with blocks of its own, in a heap. -/
def SatH : List HP → HP
  | [], _ => True
  | p :: L, h => ∃ a b, p a ∧ SatH L b ∧ a.dj b ∧ a.le h ∧ b.le h

theorem SatH.mono {L : List HP} {h h' : Hl} (H : SatH L h) (hl : h.le h') : SatH L h' := by
  cases L with
  | nil => trivial
  | cons p L => obtain ⟨a, b, h1, h2, h3, h4, h5⟩ := H; exact ⟨a, b, h1, h2, h3, h4.trans hl, h5.trans hl⟩

theorem SatH.swap {p q : HP} {L : List HP} {h : Hl} (H : SatH (p :: q :: L) h) : SatH (q :: p :: L) h := by
  obtain ⟨a, b, hp, ⟨c, d, hq, hL, hcd, hc, hd⟩, hab, ha, hb⟩ := H
  refine ⟨c, a.un d, hq, ⟨a, d, hp, hL, Hl.dj_le hab (Hl.le_refl _) hd, Hl.le_un, Hl.le_un' (Hl.dj_le hab (Hl.le_refl _) hd)⟩, ?_, hc.trans hb, Hl.un_le ha (hd.trans hb)⟩
  exact Hl.dj_symm (Hl.un_dj (Hl.dj_le hab (Hl.le_refl _) hc) (Hl.dj_symm hcd))

theorem SatH.tail {p : HP} {L : List HP} {h : Hl} (H : SatH (p :: L) h) : SatH L h := by
  obtain ⟨a, b, _, h2, _, _, h5⟩ := H; exact h2.mono h5

theorem SatH.cons_mono {p : HP} {L L' : List HP} (hL : ∀ h, SatH L h → SatH L' h) {h : Hl} (H : SatH (p :: L) h) : SatH (p :: L') h := by
  obtain ⟨a, b, h1, h2, h3, h4, h5⟩ := H; exact ⟨a, b, h1, hL _ h2, h3, h4, h5⟩

theorem SatH.perm {L L' : List HP} (hp : L.Perm L') : ∀ {h : Hl}, SatH L h → SatH L' h := by
  induction hp with
  | nil => exact fun H => H
  | cons x _ ih => exact fun H => SatH.cons_mono (fun _ => ih) H
  | swap x y l => exact fun H => H.swap
  | trans _ _ ih1 ih2 => exact fun H => ih2 (ih1 H)

/-- The first resource taken apart into a list of resources. -/
theorem SatH.split {M L : List HP} {h : Hl} (H : SatH (SatH M :: L) h) : SatH (M ++ L) h := by
  induction M generalizing L h with
  | nil => exact H.tail
  | cons p M ih =>
    obtain ⟨a, b, ⟨c, d, hp, hM, hcd, hc, hd⟩, hL, hab, ha, hb⟩ := H
    refine ⟨c, d.un b, hp, ih ⟨d, b, hM, hL, Hl.dj_le hab hd (Hl.le_refl _), Hl.le_un, Hl.le_un' (Hl.dj_le hab hd (Hl.le_refl _))⟩, ?_, hc.trans ha, Hl.un_le (hd.trans ha) hb⟩
    exact Hl.dj_symm (Hl.un_dj (Hl.dj_symm hcd) (Hl.dj_symm (Hl.dj_le hab hc (Hl.le_refl _))))

theorem SatH.join {M L : List HP} {h : Hl} (H : SatH (M ++ L) h) : SatH (SatH M :: L) h := by
  induction M generalizing L h with
  | nil => exact ⟨fun _ => none, h, trivial, H, fun _ _ _ e => (by cases e), fun _ _ e => (by cases e), Hl.le_refl _⟩
  | cons p M ih =>
    obtain ⟨a, b, hp, H', hab, ha, hb⟩ := H
    obtain ⟨c, d, hM, hL, hcd, hc, hd⟩ := ih H'
    refine ⟨a.un c, d, ⟨a, c, hp, hM, Hl.dj_le hab (Hl.le_refl _) hc, Hl.le_un, Hl.le_un' (Hl.dj_le hab (Hl.le_refl _) hc)⟩, hL, ?_, Hl.un_le ha (hc.trans hb), hd.trans hb⟩
    exact Hl.un_dj (Hl.dj_le hab (Hl.le_refl _) hd) hcd

theorem SatH.head_mono {p q : HP} {L : List HP} (hpq : ∀ a, p a → q a) {h : Hl} (H : SatH (p :: L) h) : SatH (q :: L) h := by
  obtain ⟨a, b, h1, h2⟩ := H; exact ⟨a, b, hpq _ h1, h2⟩

/-- The world's heap as a function. -/
def hl (w : World) : Hl := fun k => w.heap[k]?

/-- What is known of world w: the streams are those of w0; the resources of L lie in its heap. -/
structure Sat (w0 w : World) (L : List HP) : Prop where
  os : w.os = w0.os
  tape : w.tape = w0.tape
  output : w.output = w0.output
  heap : SatH L (hl w)

/-- A block. -/
def blk (b : Nat) (o : Obj) : HP := fun a => a b = some o

section
variable {w0 w w' : World} {L L' : List HP} {p q : HP}

theorem Sat.perm (h : Sat w0 w L) (hp : L.Perm L') : Sat w0 w L' := ⟨h.os, h.tape, h.output, h.heap.perm hp⟩
theorem Sat.map (h : Sat w0 w L) (hp : ∀ h, SatH L h → SatH L' h) : Sat w0 w L' := ⟨h.os, h.tape, h.output, hp _ h.heap⟩
theorem Sat.tail (h : Sat w0 w (p :: L)) : Sat w0 w L := h.map fun _ H => H.tail
theorem Sat.swap (h : Sat w0 w (p :: q :: L)) : Sat w0 w (q :: p :: L) := h.map fun _ H => H.swap
theorem Sat.drew (h : Sat w0 w L) : Sat w0 w.drew L := ⟨h.os, h.tape, h.output, h.heap⟩
theorem Sat.split {M : List HP} (h : Sat w0 w (SatH M :: L)) : Sat w0 w (M ++ L) := h.map fun _ H => H.split
theorem Sat.join {M : List HP} (h : Sat w0 w (M ++ L)) : Sat w0 w (SatH M :: L) := h.map fun _ H => H.join

/-- 'there is an x' and what is plain, out of the first resource. -/
theorem Sat.ex {α : Type} {P : α → HP} (h : Sat w0 w ((fun a => ∃ x, P x a) :: L)) : ∃ x, Sat w0 w (P x :: L) := by
  obtain ⟨a, b, ⟨x, hx⟩, h2⟩ := h.heap; exact ⟨x, h.os, h.tape, h.output, a, b, hx, h2⟩

theorem Sat.pure {φ : Prop} {P : HP} (h : Sat w0 w ((fun a => φ ∧ P a) :: L)) : φ ∧ Sat w0 w (P :: L) := by
  obtain ⟨a, b, ⟨hφ, hx⟩, h2⟩ := h.heap; exact ⟨hφ, h.os, h.tape, h.output, a, b, hx, h2⟩

theorem Sat.to_head (h : Sat w0 w (p :: L)) (hpq : ∀ a, p a → q a) : Sat w0 w (q :: L) := h.map fun _ H => SatH.head_mono hpq H

/-- p stands in L; L' is L with q there. -/
inductive Rep (p q : HP) : List HP → List HP → Prop
  | here (M : List HP) : Rep p q (p :: M) (q :: M)
  | there (r : HP) (M M' : List HP) : Rep p q M M' → Rep p q (r :: M) (r :: M')

/-- p stands in L; L' is L without. -/
inductive Out (p : HP) : List HP → List HP → Prop
  | here (M : List HP) : Out p (p :: M) M
  | there (r : HP) (M M' : List HP) : Out p M M' → Out p (r :: M) (r :: M')

theorem Out.perm (h : Out p L L') : L.Perm (p :: L') := by
  induction h with
  | here _ => exact .refl _
  | there _ _ _ _ ih => exact (List.Perm.cons _ ih).trans (.swap _ _ _)

theorem Rep.out (h : Rep p q L L') : ∃ M, Out p L M ∧ Out q L' M := by
  induction h with
  | here _ => exact ⟨_, .here _, .here _⟩
  | there _ _ _ _ ih => obtain ⟨M, h1, h2⟩ := ih; exact ⟨_, .there _ _ _ h1, .there _ _ _ h2⟩

theorem Sat.out (h : Sat w0 w L) (ho : Out p L L') : Sat w0 w (p :: L') := h.perm ho.perm
theorem Sat.into (h : Sat w0 w (p :: L')) (ho : Out p L L') : Sat w0 w L := h.perm ho.perm.symm

/-- The resources of T stand in L, each at a place of its own. -/
inductive Pick : List HP → List HP → Prop
  | nil (M : List HP) : Pick M []
  | cons {p : HP} {M M' T : List HP} : Out p M M' → Pick M' T → Pick M (p :: T)
  | tail (M : List HP) : Pick M M
  | drop {p : HP} {M T : List HP} : Pick M T → Pick (p :: M) T

theorem Sat.pick {T : List HP} (h : Sat w0 w L) (hp : Pick L T) : Sat w0 w T := by
  suffices H : ∀ L T : List HP, Pick L T → ∀ h, SatH L h → SatH T h from h.map (H _ _ hp)
  intro L T hp
  induction hp with
  | nil => exact fun _ _ => trivial
  | cons ho _ ih => exact fun h H => SatH.cons_mono ih (H.perm ho.perm)
  | tail => exact fun h H => H
  | drop _ ih => exact fun h H => ih h H.tail

theorem Sat.get (h : Sat w0 w L) {b : Nat} {o : Obj} (ho : Out (blk b o) L L') : w.heap[b]? = some o := by
  obtain ⟨a, _, h1, _, _, h2, _⟩ := (h.out ho).heap; exact h2 _ _ h1

theorem SatH.get {h : Hl} (H : SatH L h) {b : Nat} {o : Obj} (ho : Out (blk b o) L L') : h b = some o := by
  obtain ⟨a, _, h1, _, _, h2, _⟩ := H.perm ho.perm; exact h2 _ _ h1

/-- Two blocks of a list are two. -/
theorem Sat.ne {b c : Nat} {o o' : Obj} (h : Sat w0 w (blk b o :: L)) (ho : Out (blk c o') L L') : b ≠ c := by
  obtain ⟨a, d, h1, h2, hd, _, _⟩ := h.heap
  intro e; subst e
  obtain ⟨_, _, h3, _, _, h4, _⟩ := h2.perm ho.perm
  exact hd _ _ _ h1 (h4 _ _ h3)

/-- A new block. -/
theorem Sat.alloc (h : Sat w0 w L) (o : Obj) : Sat w0 (w.alloc o) (blk w.heap.size o :: L) := by
  refine ⟨h.os, h.tape, h.output, fun k => if k = w.heap.size then some o else none, hl w, by simp [blk], h.heap, ?_, ?_, ?_⟩
  · intro k o1 o2 h1 h2
    dsimp only at h1
    split at h1
    · rename_i e; subst e; simp [hl] at h2
    · cases h1
  · intro k o1 h1
    dsimp only at h1
    split at h1
    · rename_i e; subst e; cases h1
      show (w.heap.push o)[w.heap.size]? = _
      simp
    · cases h1
  · intro k o1 h1
    show (w.heap.push o)[k]? = _
    have : k < w.heap.size := (Array.getElem?_eq_some_iff.1 h1).1
    rw [Array.getElem?_push, if_neg (by omega)]; exact h1

/-- A block is written. -/
theorem Sat.put {b : Nat} {o o' : Obj} (h : Sat w0 w (blk b o :: L)) (hb : w'.heap[b]? = some o') (hk : ∀ k, k ≠ b → k < w.heap.size → w'.heap[k]? = w.heap[k]?)
    (h1 : w'.os = w.os) (h2 : w'.tape = w.tape) (h3 : w'.output = w.output) : Sat w0 w' (blk b o' :: L) := by
  obtain ⟨a, d, g1, g2, g3, g4, g5⟩ := h.heap
  refine ⟨h1.trans h.os, h2.trans h.tape, h3.trans h.output, fun k => if k = b then some o' else none, d, by simp [blk], g2, ?_, ?_, ?_⟩
  · intro k o1 o2 e1 e2
    dsimp only at e1
    split at e1
    · rename_i e; subst e; exact g3 _ _ _ g1 e2
    · cases e1
  · intro k o1 e1
    dsimp only at e1
    split at e1
    · rename_i e; subst e; cases e1; exact hb
    · cases e1
  · intro k o1 e1
    have hne : k ≠ b := fun e => by subst e; exact g3 _ _ _ g1 e1
    have := g5 _ _ e1
    show w'.heap[k]? = _
    rw [hk k hne (Array.getElem?_eq_some_iff.1 this).1]; exact this

theorem Sat.put_at {b : Nat} {o o' : Obj} (h : Sat w0 w L) (hr : Rep (blk b o) (blk b o') L L') (hb : w'.heap[b]? = some o') (hk : ∀ k, k ≠ b → k < w.heap.size → w'.heap[k]? = w.heap[k]?)
    (h1 : w'.os = w.os) (h2 : w'.tape = w.tape) (h3 : w'.output = w.output) : Sat w0 w' L' := by
  obtain ⟨M, ho, ho'⟩ := hr.out
  exact ((h.out ho).put hb hk h1 h2 h3).into ho'

/-- New blocks do not disturb. -/
theorem Sat.grown (h : Sat w0 w L) (hk : ∀ k, k < w.heap.size → w'.heap[k]? = w.heap[k]?) (h1 : w'.os = w.os) (h2 : w'.tape = w.tape) (h3 : w'.output = w.output) : Sat w0 w' L :=
  ⟨h1.trans h.os, h2.trans h.tape, h3.trans h.output, h.heap.mono fun k o e => by
    show w'.heap[k]? = _
    rw [hk k (Array.getElem?_eq_some_iff.1 e).1]; exact e⟩
end

/-- All that lay in w. -/
def old (w : World) : HP := fun a => hl w |>.le a

theorem Sat.start (w : World) : Sat w w [old w] :=
  ⟨rfl, rfl, rfl, hl w, fun _ => none, Hl.le_refl _, trivial, fun _ _ _ _ e => (by cases e), Hl.le_refl _, fun _ _ e => (by cases e)⟩

theorem Sat.of_old {w w' : World} {L M : List HP} (h : Sat w w' L) (ho : Out (old w) L M) : ∀ k, k < w.heap.size → w'.heap[k]? = w.heap[k]? := by
  intro k hk
  obtain ⟨a, _, h1, _, _, h2, _⟩ := (h.out ho).heap
  have e : hl w k = some w.heap[k] := by simp [hl, hk]
  have := h2 _ _ (h1 _ _ e)
  show hl w' k = hl w k
  rw [this, e]

theorem Sat.below {w w' : World} {L M : List HP} (h : Sat w w' L) (ho : Out (old w) L M) : Go.RowKit.Below w.heap.size w w' := by
  refine ⟨h.os, h.tape, h.output, ?_, h.of_old ho⟩
  by_cases hz : w.heap.size = 0
  · omega
  · have h1 := h.of_old ho (w.heap.size - 1) (by omega)
    have h2 : w.heap[w.heap.size - 1]? = some (w.heap[w.heap.size - 1]'(by omega)) := Array.getElem?_eq_getElem (by omega)
    rw [h2] at h1
    have h3 := (Array.getElem?_eq_some_iff.1 h1).1
    omega

#print axioms Sat.below
#print axioms Sat.put_at
end Sl
