/-
  Slices of structs of one's own, and resources that only read. No Go program in it.
-/
import Derived.Test.YtcpcdhlfdabbnaaWk
namespace Sl
open Go Go.RowKit

theorem fold_set (l : List Value) : ∀ (k : Nat) (cs : Array Value), k + l.length ≤ cs.size → ((l.zipIdx k).foldl (fun (cs : Array Value) (x : Value × Nat) => cs.setIfInBounds x.2 x.1) cs).toList = cs.toList.take k ++ l ++ cs.toList.drop (k + l.length) := by
  induction l with
  | nil => intro k cs _; simp
  | cons v l ih =>
    intro k cs hk
    simp only [List.length_cons] at hk
    simp only [List.zipIdx_cons, List.foldl_cons]
    rw [ih (k + 1) _ (by simp; omega)]
    have e := list_seg_step cs.toList k v l (by simp; omega)
    rw [show k + (v :: l).length = k + 1 + l.length from by simp; omega]
    simpa [show k + (l.length + 1) = k + 1 + l.length from by omega] using e

theorem fill_whole {n : Nat} {v : Value} {cells : Array Value} (hn : v.cells.size = n) (hc : cells.size = n) (place : Nat → Option (Nat × Nat)) (hp : place 0 = some (0, n)) : Instr.fill place cells [(0, v)] = some v.cells := by
  simp only [Instr.fill, hp]
  rw [if_neg (by simp [hn, hc])]
  congr 1
  apply Array.ext'
  have h := fold_set v.cells.toList 0 cells (by simp [hn, hc])
  simp only [List.take_zero, List.nil_append, Nat.zero_add] at h
  rw [List.drop_eq_nil_of_le (by simp [hn, hc]), List.append_nil] at h
  rw [← h]
  congr 1
  rw [← Array.foldl_toList, Array.toList_zipIdx]
  simp only [Nat.zero_add]

section
variable {P : Program} {K : Act → World → Prop} {Q : Exit → Act → World → Prop} {a : Act} {w0 w : World} {L M : List HP}
variable {dst : Option Tmp} {ty : TypeId} {pos : String} {aft : Array Edge} {gd : Option (Nat × Bool)}
/-- 'T{v}', a slice of one struct. -/
theorem st_buildOne {T E : TypeId} {sz : Nat} {x : Operand} {v z : Value} {by_ : Nat} [hT : SlT P T E] [hi : Inf P E z sz by_] (hs : Sat w0 w L) (hv : a.eval x = v) (hn : v.cells.size = sz) (h0 : 0 < sz) (h1 : sz ≤ 65536)
    (h : ∀ b w1, Sat w0 w1 (own E sz (some ⟨b, 0, none⟩) 1 1 v.cells.toList :: L) → K (a.put dst (.slice (some ⟨b, 0, none⟩) 1 1)) w1) :
    Oper.wp P ⟨dst, .buildSlice T 1 #[(0, x)], ty, pos, aft, gd⟩ a w K Q := by
  obtain ⟨i, g1, g2, g3, g4, g5⟩ := hi.h
  subst g3
  refine st_do rfl (v := .slice (some ⟨w.heap.size, 0, none⟩) 1 1) (w' := w.alloc (.cells v.cells E)) ?_ (h _ _ (Sat.own_mk (hs.alloc _) (by rw [Array.length_toList, hn, Nat.one_mul]) (Nat.le_refl _) (by simp only [maxLen]; omega) (by rw [hn, Nat.one_mul]) (by rw [Nat.one_mul]; exact List.take_of_length_le (by rw [Array.length_toList, hn]; exact Nat.le_refl _))))
  have hf := fill_whole (cells := (Array.range (1 * i.size)).map fun j => z.cells[j % z.cells.size]!) hn (by simp) (fun k => some (k * i.size, i.size)) (by simp)
  have hz : ¬ (16777216 < i.size) := by omega
  have hz0 : ¬ i.size = 0 := by omega
  simp only [Nat.one_mul] at hf
  simp [execOp, Instr.buildSlice, run_underlying hT.h, Go.sizeOf, typeInfo, zeroValue, newRow, g1, g2, hz, hz0, hv, hf]
end

section
variable {P : Program} {ops : Array Oper} {Q : Exit → Act → World → Prop} {w0 : World} {L : List HP}
attribute [local semireducible] rg
theorem rg_three {i j k : Nat} {oi oj ok : Oper} {fuel : Nat} {listed : Array Bool} {a : Act} {w : World} (hr : Region.ready .any ops listed = [i, j, k]) (hi : ops.toList[i]? = some oi) (hj : ops.toList[j]? = some oj) (hk : ops.toList[k]? = some ok)
    (hw : Region.wanted oi (yielded ops a.tmps) = true) (hw2 : Region.wanted oj (yielded ops a.tmps) = true) (hw3 : Region.wanted ok (yielded ops a.tmps) = true)
    (h : ∀ K : Act → World → Prop, Shut (∀ a w, Sat w0 w L → rg P ops Q w0 L fuel (listed.setIfInBounds i true) a w → K a w) → Oper.wp P oi a w K Q)
    (h2 : ∀ K : Act → World → Prop, Shut (∀ a w, Sat w0 w L → rg P ops Q w0 L fuel (listed.setIfInBounds j true) a w → K a w) → Oper.wp P oj a w K Q)
    (h3 : ∀ K : Act → World → Prop, Shut (∀ a w, Sat w0 w L → rg P ops Q w0 L fuel (listed.setIfInBounds k true) a w → K a w) → Oper.wp P ok a w K Q) : rg P ops Q w0 L (fuel + 1) listed a w :=
  wpAnyH_ready hr (by simp) (.cons (by simpa using hi) (fun K hK => by rw [if_pos hw]; exact h K (fun a w h1 h2 => hK a w h1 (fun _ => h2))) (.cons (by simpa using hj) (fun K hK => by rw [if_pos hw2]; exact h2 K (fun a w h1 h2 => hK a w h1 (fun _ => h2))) (.cons (by simpa using hk) (fun K hK => by rw [if_pos hw3]; exact h3 K (fun a w h1 h2 => hK a w h1 (fun _ => h2))) .nil)))
end

/-! ### What only reads -/
def RdH (h : Hl) : Rdr := fun A n sz vs => vs.length = n * sz ∧ (A = none → n = 0) ∧ ∀ a, A = some a → ∀ j u, vs[j]? = some u → a.spot = none ∧ ∃ cells E fr, h a.block = some (.cells cells E fr) ∧ cells[a.off + j]? = some u

theorem RdH.mono {h h' : Hl} (hl : h.le h') {A n sz vs} (r : RdH h A n sz vs) : RdH h' A n sz vs :=
  ⟨r.1, r.2.1, fun a e j u hu => by obtain ⟨h1, c, E, fr, h2, h3⟩ := r.2.2 a e j u hu; exact ⟨h1, c, E, fr, hl _ _ h2, h3⟩⟩

theorem RdH.reads {w : World} {h : Hl} (hl : h.le (Sl.hl w)) {A n sz vs} (r : RdH h A n sz vs) : Reads w A n sz vs :=
  ⟨r.1, r.2.1, fun a e j u hu => by
    obtain ⟨h1, c, E, fr, h2, h3⟩ := r.2.2 a e j u hu
    have h4 : w.heap[a.block]? = some (.cells c E fr) := hl _ _ h2
    exact ⟨h1, by simp [World.cell?, h4, h3]⟩⟩

/-- Rows that read, in blocks of this resource. -/
def DV (l : List (Option Addr × List UInt8)) : HP := fun h => ∀ y ∈ l, RdH h y.1 y.2.length 1 (B8 y.2)

theorem DV.rd {w0 : World} {L : List HP} {l : List (Option Addr × List UInt8)} {A : Option Addr} {d : List UInt8} (hm : (A, d) ∈ l) : Rd w0 (DV l :: L) A d.length 1 (B8 d) := by
  intro w hs
  obtain ⟨p, q, h1, _, _, h3, _⟩ := hs.heap
  exact (h1 _ hm).reads h3

theorem own_rdh {E : TypeId} {A : Option Addr} {c n : Nat} {xs : List Value} {h : Hl} (H : own E 1 A c n xs h) : RdH h A n 1 xs := by
  obtain ⟨hl, hc⟩ := H
  refine ⟨hl, fun e => ?_, fun a e j u hu => ?_⟩
  · rcases hc with ⟨_, h, _⟩ | ⟨g, cur, e', _⟩
    · exact h
    · rw [e] at e'; cases e'
  · rcases hc with ⟨e', _⟩ | ⟨g, cur, e', hb, h3, h4, h5, h6⟩
    · rw [e] at e'; cases e'
    · rw [e] at e'; cases e'
      refine ⟨rfl, cur, E, (0, 0), hb, ?_⟩
      rw [← h6, List.getElem?_take] at hu
      split at hu
      · simpa using hu
      · cases hu

theorem Sat.dv_nil {w0 w : World} {L : List HP} (hs : Sat w0 w L) : Sat w0 w (DV [] :: L) := hs.map fun _ H => SatH.nil_cons (fun y hy => by cases hy) H

theorem Sat.dv_snoc {w0 w : World} {L : List HP} {E : TypeId} {A : Option Addr} {c : Nat} {l : List (Option Addr × List UInt8)} {d : List UInt8} (hs : Sat w0 w (own E 1 A c d.length (B8 d) :: DV l :: L)) : Sat w0 w (DV (l ++ [(A, d)]) :: L) := by
  refine hs.map fun h H => ?_
  obtain ⟨p, q, hp, ⟨r, t, hr, ht, hrt, h6, h7⟩, hpq, h4, h5⟩ := H
  refine ⟨p.un r, t, ?_, ht, ?_, Hl.un_le h4 (h6.trans h5), h7.trans h5⟩
  · intro y hy
    rcases List.mem_append.1 hy with hy | hy
    · exact (hr y hy).mono (Hl.le_un' (Hl.dj_le hpq (Hl.le_refl _) h6))
    · simp only [List.mem_singleton] at hy
      subst hy
      exact (own_rdh hp).mono Hl.le_un
  · exact Hl.un_dj (Hl.dj_le hpq (Hl.le_refl _) h7) hrt
theorem Sat.dv_snoc2 {w0 w : World} {L : List HP} {X : HP} {E : TypeId} {A : Option Addr} {c : Nat} {l : List (Option Addr × List UInt8)} {d : List UInt8} (hs : Sat w0 w (X :: own E 1 A c d.length (B8 d) :: DV l :: L)) : Sat w0 w (X :: DV (l ++ [(A, d)]) :: L) := by
  have h1 : Sat w0 w (own E 1 A c d.length (B8 d) :: DV l :: X :: L) := hs.pick (by (repeat (first | exact Pick.nil _ | exact Pick.tail _ | exact Out.here _ | apply Out.there | apply Pick.cons | apply Pick.drop)))
  exact h1.dv_snoc.pick (by (repeat (first | exact Pick.nil _ | exact Pick.tail _ | exact Out.here _ | apply Out.there | apply Pick.cons | apply Pick.drop)))
#print axioms Sat.dv_snoc2
end Sl
