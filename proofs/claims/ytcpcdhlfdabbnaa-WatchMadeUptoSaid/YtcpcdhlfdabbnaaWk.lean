/-
  Rules for walks that are printed step by step: control flow, and plain regions one operation at a time.
-/
import Derived.Test.YtcpcdhlfdabbnaaReg
import Derived.Test.YtcpcdhlfdabbnaaSlRet
import Derived.Test.YtcpcdhlfdabbnaaShape
namespace Sl
open Go Go.RowKit

section
variable {P : Program} {ops : Array Oper} {Q Q' : Exit → Act → World → Prop} {w0 w : World} {L : List HP} {a : Act} {rest : List Oper} {o : Oper}

/-- Short names: what is printed must not be long. -/
theorem aP {α : Type} (l : List α) (i : Nat) (x : α) : l.toArray.setIfInBounds i x = (l.set i x).toArray := List.setIfInBounds_toArray l i x
theorem aZ {α : Type} {x y : α} {l : List α} : (x :: l).set 0 y = y :: l := List.set_cons_zero
theorem aS {α : Type} {x y : α} {l : List α} {i : Nat} : (x :: l).set (i + 1) y = x :: l.set i y := List.set_cons_succ

theorem wk_seq {x y : Code} (h : ∀ K : Act → World → Prop, Shut (∀ a w, y.wp P Q a w → K a w) → x.wp P (Exit.then K Q) a w) : (Code.seq x y).wp P Q a w := wp_seq_k h
/-- 'wpList', shut: no tactic is to compute it. -/
@[irreducible] def wlx (P : Program) (ops : Array Oper) (Q : Exit → Act → World → Prop) (l : List Oper) (a : Act) (w : World) : Prop := wpList P ops Q l a w
theorem wk_reg {id : Nat} {l : List Oper} (h : wlx P l.toArray Q l a w) : (Code.region id l.toArray false).wp P Q a w := by
  unfold wlx at h
  exact wp_region_list h

theorem pl_done (h : Q .normal a w) : wlx P ops Q [] a w := by
  unfold wlx
  exact h

theorem pl_take {v : Value} (hw : Region.wanted o (yielded ops a.tmps) = true) (hy : (execOp a.eval o).run P w = .ok (.value v) w) (h : wlx P ops Q rest (a.put o.dst v) w) : wlx P ops Q (o :: rest) a w := by
  unfold wlx at h ⊢
  unfold wpList
  rw [if_pos hw]
  refine .inl ?_
  unfold Oper.wp
  rw [hy]
  exact h

theorem pl_skip (hw : Region.wanted o (yielded ops a.tmps) = false) (h : wlx P ops Q rest (a.put o.dst undef) w) : wlx P ops Q (o :: rest) a w := by
  unfold wlx at h ⊢
  unfold wpList
  rw [if_neg (by rw [hw]; simp)]
  exact h

theorem pl_eff (hw : Region.wanted o (yielded ops a.tmps) = true) (h : ∀ K : Act → World → Prop, Shut (∀ a w, wlx P ops Q rest a w → K a w) → Oper.wp P o a w K Q) : wlx P ops Q (o :: rest) a w := by
  unfold wlx at h ⊢
  unfold wpList
  rw [if_pos hw]
  exact .inl (h _ fun _ _ h => h)
end
section
variable {P : Program} {K : Act → World → Prop} {Q : Exit → Act → World → Prop} {a : Act} {w0 w : World} {L M : List HP}
variable {dst : Option Tmp} {ty : TypeId} {pos : String} {aft : Array Edge} {gd : Option (Nat × Bool)}
/-- A struct is written whole. -/
theorem st_storeAll {T : TypeId} {x y : Operand} {b n : Nat} {cur : Array Value} {E : TypeId} {v z : Value} {by_ : Nat} {L' : List HP} [hi : Inf P T z n by_] (hs : Sat w0 w L) (hx : a.eval x = .pointer (some ⟨b, 0, none⟩)) (hy : a.eval y = v)
    (ho : Out (blk b (.cells cur E (0, 0))) L L') (hn : v.cells.size = n) (h1 : ∀ u ∈ v.cells.toList, u.oneCell' = true) (hfit : n = cur.size)
    (h : ∀ w1, Sat w0 w1 (blk b (.cells v.cells E (0, 0)) :: L') → K (a.put dst undef) w1) : Oper.wp P ⟨dst, .store T x y, ty, pos, aft, gd⟩ a w K Q := by
  refine st_store hs hx hy ho hn h1 (by omega) fun w1 hw => h w1 ?_
  have e : upd cur 0 v.cells.toList = v.cells := by
    unfold upd
    rw [List.drop_eq_nil_of_le (by simp; omega)]
    simp
  rwa [e] at hw
end

theorem Cl.own {w0 : World} {L : List HP} {g : Nat} {E : TypeId} {c n k : Nat} {xs : List Value} {v : Value} (h : xs[k]? = some v) : Cl w0 (own E 1 (some ⟨g, 0, none⟩) c n xs :: L) ⟨g, k, none⟩ v := by
  have := (Rd.own (w0 := w0) (L := L) (E := E) (sz := 1) (A := some ⟨g, 0, none⟩) (c := c) (n := n) (xs := xs)).elt h
  simpa using this

#print axioms pl_eff
end Sl
