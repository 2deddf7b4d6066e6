/-
  Maps as resources: rules for a map that is made, read, written, ranged over. No Go program in it.
-/
import Derived.Test.YtcpcdhlfdabbnaaWk
import Derived.Maps.RangeRun
import Derived.Maps.Keyed
namespace Sl
open Go Go.RowKit Go.Maps

/-- Keys of type k: as values of a Lean type. -/
structure KT (P : Program) (k : TypeId) {κ : Type} (kv : κ → Value) (ok : κ → Prop) : Prop where
  law : Keyed P k
  key : ∀ x, ok x → ∃ l, keyOf P k (kv x) = some l
  inj : ∀ x y, kv x = kv y → x = y

class MapT (P : Program) (T : TypeId) (k e : outParam TypeId) : Prop where
  h : P.underlying T = some (.map k e)

section
variable {κ : Type} {P : Program} {k : TypeId} {kv : κ → Value} {ok : κ → Prop}

/-- Block b holds a map of these keys and elements. -/
def mp (kv : κ → Value) (ok : κ → Prop) (b : Nat) (l : List (κ × Value)) : HP := fun h =>
  ∃ es clock, h b = some (.map es clock) ∧ MapKept.Stamped es clock ∧ es.toList.map (fun e => (e.key, e.val)) = l.map (fun p => (kv p.1, p.2)) ∧ ∀ p ∈ l, ok p.1

/-- The keys of the entries, the values, and where a key stands. -/
theorem mp_nodup {es : Array MapEntry} {clock : Nat} {l : List (κ × Value)} (hs : MapKept.Stamped es clock) (hl : es.toList.map (fun e => (e.key, e.val)) = l.map (fun p => (kv p.1, p.2))) : (l.map (·.1)).Nodup := by
  have h3 := hs.2.2
  have e1 : es.toList.map (·.key) = (l.map (·.1)).map kv := by
    have := congrArg (List.map Prod.fst) hl
    simpa [List.map_map, Function.comp_def] using this
  rw [e1] at h3
  exact List.Pairwise.of_map kv (fun _ _ h e => h (by rw [e])) h3

theorem mp_find (T : KT P k kv ok) (w : World) {es : Array MapEntry} {l : List (κ × Value)} (hl : es.toList.map (fun e => (e.key, e.val)) = l.map (fun p => (kv p.1, p.2))) (hok : ∀ p ∈ l, ok p.1) {x : κ} (hx : ok x) :
    ((Instr.findKey k (kv x) es.toList).run P w = .ok none w ∧ (∀ e ∈ es.toList, e.key ≠ kv x) ∧ (∀ p ∈ l, p.1 ≠ x)) ∨
    ∃ j e, (Instr.findKey k (kv x) es.toList).run P w = .ok (some (j, e.val)) w ∧ es.toList[j]? = some e ∧ e.key = kv x ∧ l[j]? = some (x, e.val) := by
  obtain ⟨lx, hlx⟩ := T.key x hx
  have hkeys : ∀ e ∈ es.toList, ∃ z, keyOf P k e.key = some z := fun e he => by
    have h1 : (e.key, e.val) ∈ l.map (fun p => (kv p.1, p.2)) := by rw [← hl]; exact List.mem_map.2 ⟨e, he, rfl⟩
    obtain ⟨p, hp, h2⟩ := List.mem_map.1 h1
    simp only [Prod.mk.injEq] at h2
    rw [← h2.1]
    exact T.key _ (hok p hp)
  rcases T.law.find w hlx es.toList hkeys with ⟨h1, h2⟩ | ⟨j, e, h1, h2, h3⟩
  · refine .inl ⟨h1, h2, fun p hp e => ?_⟩
    have h4 : (kv p.1, p.2) ∈ es.toList.map (fun e => (e.key, e.val)) := by rw [hl]; exact List.mem_map.2 ⟨p, hp, rfl⟩
    obtain ⟨q, hq, h5⟩ := List.mem_map.1 h4
    simp only [Prod.mk.injEq] at h5
    exact h2 q hq (by rw [h5.1, e])
  · refine .inr ⟨j, e, h1, h2, h3, ?_⟩
    have h4 := congrArg (fun z => z[j]?) hl
    simp only [List.getElem?_map, h2, Option.map_some] at h4
    cases hp : l[j]? with
    | none => rw [hp] at h4; cases h4
    | some p =>
      rw [hp] at h4
      simp only [Option.map_some, Option.some.injEq, Prod.mk.injEq] at h4
      have := T.inj _ _ (h3.symm.trans h4.1)
      rw [this, h4.2]
variable {w0 w : World} {L : List HP}
theorem Sat.mp_inv {b : Nat} {l : List (κ × Value)} (hs : Sat w0 w (mp kv ok b l :: L)) :
    ∃ es clock, Sat w0 w (blk b (.map es clock) :: L) ∧ w.heap[b]? = some (.map es clock) ∧ MapKept.Stamped es clock ∧ es.toList.map (fun e => (e.key, e.val)) = l.map (fun p => (kv p.1, p.2)) ∧ ∀ p ∈ l, ok p.1 := by
  obtain ⟨h1, h2, ⟨es, clock, hb, hr⟩, h3⟩ := hs.heap
  have hh : Sat w0 w (blk b (.map es clock) :: L) := ⟨hs.os, hs.tape, hs.output, h1, h2, hb, h3⟩
  exact ⟨es, clock, hh, hh.get (.here _), hr⟩

theorem Sat.mp_mk {b : Nat} {es : Array MapEntry} {clock : Nat} {l : List (κ × Value)} (hs : Sat w0 w (blk b (.map es clock) :: L)) (h1 : MapKept.Stamped es clock) (h2 : es.toList.map (fun e => (e.key, e.val)) = l.map (fun p => (kv p.1, p.2))) (h3 : ∀ p ∈ l, ok p.1) :
    Sat w0 w (mp kv ok b l :: L) := hs.to_head fun _ hb => ⟨es, clock, hb, h1, h2, h3⟩

theorem Sat.setBlk {b : Nat} {o o' : Obj} (h : Sat w0 w (blk b o :: L)) : Sat w0 (ChangeMaps.setBlock w b o') (blk b o' :: L) := by
  have hb := h.get (.here _)
  have hlt : b < w.heap.size := (Array.getElem?_eq_some_iff.1 hb).1
  refine h.put_at (.here _) (by simp [ChangeMaps.setBlock, hlt]) (fun k hk _ => by simp [ChangeMaps.setBlock, Ne.symm hk]) rfl rfl rfl
variable {K : Act → World → Prop} {Q : Exit → Act → World → Prop} {a : Act}
variable {dst : Option Tmp} {ty : TypeId} {pos : String} {aft : Array Edge} {gd : Option (Nat × Bool)}

/-- 'make(map[K]V)'. -/
theorem st_makeMap {T : TypeId} (kv : κ → Value) (ok : κ → Prop) (hs : Sat w0 w L) (h : ∀ b w1, Sat w0 w1 (mp kv ok b [] :: L) → K (a.put dst (.map (some b))) w1) : Oper.wp P ⟨dst, .makeMap T none, ty, pos, aft, gd⟩ a w K Q := by
  refine st_do rfl (v := .map (some w.heap.size)) (w' := w.alloc (.map #[] 0)) ?_ (h _ _ (Sat.mp_mk (hs.alloc _) ⟨by simp, by simp, by simp⟩ rfl (by simp)))
  simp [execOp, Instr.makeMap]

/-- 'm[k]' of a nil map. -/
theorem yl_lookupNil {T e : TypeId} {z : Value} {sz by_ : Nat} {m x : Operand} {c : Bool} {xk : κ} [hT : MapT P T k e] [hi : Inf P e z sz by_] (KT' : KT P k kv ok) (hm : a.eval m = .map none) (hx : a.eval x = kv xk) (hok : ok xk) :
    (execOp a.eval ⟨dst, .lookup T m x c, ty, pos, aft, gd⟩).run P w = .ok (.value (if c then .tuple #[z, .bool false] else z)) w := by
  obtain ⟨lx, hlx⟩ := KT'.key xk hok
  obtain ⟨i, g1, g2, g3, g4, g5⟩ := hi.h
  have hz : (zeroValue e).run P w = .ok z w := by simp [zeroValue, typeInfo, g1, g2]
  rcases KT'.law.find w hlx [] (by simp) with ⟨f1, _⟩ | ⟨j, en, _, f2, _⟩
  · simp [execOp, Instr.lookup, hm, hx, run_underlying hT.h, KT'.law.check w _ hlx, f1, hz, Result.andThen]
  · simp at f2
/-- 'len(m)'. -/
theorem yl_maplen {T e : TypeId} {m : Operand} {b : Nat} {l : List (κ × Value)} {L' : List HP} [hT : MapT P T k e] (hs : Sat w0 w L) (hm : a.eval m = .map (some b)) (ho : Out (mp kv ok b l) L L') :
    (execOp a.eval ⟨dst, .call { callee := .builtin .len, args := #[m], argTypes := #[T] }, ty, pos, aft, gd⟩).run P w = .ok (.value (.int .i64 l.length)) w := by
  obtain ⟨es, clock, hS, hb, h1, h2, h3⟩ := (hs.out ho).mp_inv
  have hl : es.size = l.length := by have := congrArg List.length h2; simpa using this
  have hrun : (Builtin.len_ #[T] ty #[.map (some b)]).run P w = .ok (.int .i64 l.length) w := by
    rw [← hl]; simp [Builtin.len_, run_underlying hT.h, MapKept.run_getObj_map hb, goInt, Result.andThen]
  simp [execOp, resolve, invoke, builtin, hm, hrun, Result.andThen]
theorem yl_maplenV {T e : TypeId} {m : Operand} {b : Nat} {l : List (κ × Value)} {L' : List HP} {v : Value} [hT : MapT P T k e] (hs : Sat w0 w L) (hm : a.eval m = .map (some b)) (ho : Out (mp kv ok b l) L L') (hv : Value.int .i64 (l.length : Int) = v) :
    (execOp a.eval ⟨dst, .call { callee := .builtin .len, args := #[m], argTypes := #[T] }, ty, pos, aft, gd⟩).run P w = .ok (.value v) w := by
  rw [← hv]; exact yl_maplen hs hm ho

end

theorem map_eraseIdx' {α β : Type} {f : α → β} : ∀ {l : List α} {j : Nat}, (l.eraseIdx j).map f = (l.map f).eraseIdx j
  | [], _ => rfl
  | _ :: _, 0 => rfl
  | _ :: _, j + 1 => by simp only [List.eraseIdx_cons_succ, List.map_cons]; rw [map_eraseIdx']

section
variable {κ : Type} [DecidableEq κ]

/-- What a list of pairs holds at a key. -/
def mget (l : List (κ × Value)) (x : κ) : Option Value := (l.find? fun p => p.1 = x).map (·.2)
def mput (l : List (κ × Value)) (x : κ) (v : Value) : List (κ × Value) := if l.any (fun p => p.1 = x) then l.map (fun p => if p.1 = x then (x, v) else p) else l ++ [(x, v)]
def mdel (l : List (κ × Value)) (x : κ) : List (κ × Value) := l.filter fun p => p.1 ≠ x

variable {P : Program} {k : TypeId} {kv : κ → Value} {ok : κ → Prop}

theorem mget_none {l : List (κ × Value)} {x : κ} (h : ∀ p ∈ l, p.1 ≠ x) : mget l x = none := by
  unfold mget
  rw [List.find?_eq_none.2 (by intro p hp; simpa using h p hp)]
  rfl

theorem mget_some : ∀ {l : List (κ × Value)} {x : κ} {v : Value}, (l.map (·.1)).Nodup → (x, v) ∈ l → mget l x = some v
  | [], _, _, _, h => by cases h
  | (y, u) :: l, x, v, hn, h => by
    simp only [List.map_cons, List.nodup_cons] at hn
    by_cases e : y = x
    · subst e
      rcases List.mem_cons.1 h with h | h
      · cases h; simp [mget]
      · exact absurd (List.mem_map.2 ⟨_, h, rfl⟩) hn.1
    · have h' : (x, v) ∈ l := by
        rcases List.mem_cons.1 h with h | h
        · cases h; exact absurd rfl e
        · exact h
      have ih := mget_some hn.2 h'
      unfold mget at ih ⊢
      simpa [e] using ih

end

section
variable {κ : Type} [DecidableEq κ] {P : Program} {k : TypeId} {kv : κ → Value} {ok : κ → Prop}
variable {K : Act → World → Prop} {Q : Exit → Act → World → Prop} {a : Act} {w0 w : World} {L : List HP}
variable {dst : Option Tmp} {ty : TypeId} {pos : String} {aft : Array Edge} {gd : Option (Nat × Bool)}

/-- 'm[k]', 'v, ok := m[k]'. -/
theorem yl_lookup {T e : TypeId} {z : Value} {sz by_ : Nat} {m x : Operand} {c : Bool} {b : Nat} {l : List (κ × Value)} {xk : κ} {L' : List HP} [hT : MapT P T k e] [hi : Inf P e z sz by_] (KT' : KT P k kv ok) (hs : Sat w0 w L) (hm : a.eval m = .map (some b))
    (hx : a.eval x = kv xk) (ho : Out (mp kv ok b l) L L') (hok : ok xk) :
    (execOp a.eval ⟨dst, .lookup T m x c, ty, pos, aft, gd⟩).run P w = .ok (.value (if c then .tuple #[(mget l xk).getD z, .bool (mget l xk).isSome] else (mget l xk).getD z)) w := by
  obtain ⟨es, clock, _, hb, h1, h2, h3⟩ := (hs.out ho).mp_inv
  obtain ⟨lx, hlx⟩ := KT'.key xk hok
  obtain ⟨i, g1, g2, g3, g4, g5⟩ := hi.h
  have hz : (zeroValue e).run P w = .ok z w := by simp [zeroValue, typeInfo, g1, g2]
  rcases mp_find KT' w h2 h3 hok with ⟨f1, _, f2⟩ | ⟨j, en, f1, f2, f3, f4⟩
  · simp [execOp, Instr.lookup, hm, hx, run_underlying hT.h, MapKept.run_getObj_map hb, KT'.law.check w _ hlx, f1, hz, Result.andThen, mget_none f2]
  · have f5 := mget_some (mp_nodup h1 h2) (List.mem_of_getElem? f4)
    simp [execOp, Instr.lookup, hm, hx, run_underlying hT.h, MapKept.run_getObj_map hb, KT'.law.check w _ hlx, f1, Result.andThen, f5]

theorem yl_lookupV {T e : TypeId} {z : Value} {sz by_ : Nat} {m x : Operand} {c : Bool} {b : Nat} {l : List (κ × Value)} {xk : κ} {L' : List HP} {v : Value} [hT : MapT P T k e] [hi : Inf P e z sz by_] (KT' : KT P k kv ok) (hs : Sat w0 w L) (hm : a.eval m = .map (some b))
    (hx : a.eval x = kv xk) (ho : Out (mp kv ok b l) L L') (hok : ok xk) (hv : (if c then .tuple #[(mget l xk).getD z, .bool (mget l xk).isSome] else (mget l xk).getD z) = v) :
    (execOp a.eval ⟨dst, .lookup T m x c, ty, pos, aft, gd⟩).run P w = .ok (.value v) w := by
  rw [← hv]; exact yl_lookup KT' hs hm hx ho hok

theorem mput_none {l : List (κ × Value)} {x : κ} {v : Value} (h : ∀ p ∈ l, p.1 ≠ x) : mput l x v = l ++ [(x, v)] := by
  unfold mput
  rw [if_neg]
  intro hh
  obtain ⟨p, hp, h2⟩ := List.any_eq_true.1 hh
  exact h p hp (by simpa using h2)

theorem mput_at {l : List (κ × Value)} {x : κ} {u v : Value} {j : Nat} (hn : (l.map (·.1)).Nodup) (h : l[j]? = some (x, u)) : mput l x v = l.set j (x, v) := by
  unfold mput
  rw [if_pos (List.any_eq_true.2 ⟨_, List.mem_of_getElem? h, by simp⟩)]
  apply List.ext_getElem?
  intro i
  rw [List.getElem?_map, List.getElem?_set]
  have hj := (List.getElem?_eq_some_iff.1 h).1
  split
  · rename_i e
    subst e
    rw [h]; simp
  · rename_i e
    cases hi : l[i]? with
    | none => rfl
    | some p =>
      have hne : p.1 ≠ x := fun e2 => by
        have h1 : (l.map (·.1))[i]? = some x := by rw [List.getElem?_map, hi]; simp [e2]
        have h2 : (l.map (·.1))[j]? = some x := by rw [List.getElem?_map, h]; rfl
        have hi' := (List.getElem?_eq_some_iff.1 h1).1
        exact e (((List.getElem?_inj hi' hn).1 (h1.trans h2.symm)).symm)
      simp [hne]

theorem mdel_at {l : List (κ × Value)} {x : κ} {u : Value} {j : Nat} (hn : (l.map (·.1)).Nodup) (h : l[j]? = some (x, u)) : mdel l x = l.eraseIdx j := by
  induction l generalizing j with
  | nil => simp at h
  | cons p l ih =>
    simp only [List.map_cons, List.nodup_cons] at hn
    cases j with
    | zero =>
      simp at h; subst h
      have : l.filter (fun p => decide (p.1 ≠ x)) = l := List.filter_eq_self.2 (fun q hq => by
        simp only [ne_eq, decide_not, Bool.not_eq_eq_eq_not, Bool.not_true, decide_eq_false_iff_not]
        intro e; exact hn.1 (List.mem_map.2 ⟨q, hq, e⟩))
      simp only [mdel, List.filter_cons, List.eraseIdx_cons_zero]
      simpa using this
    | succ j =>
      have h' : l[j]? = some (x, u) := by simpa using h
      have hne : p.1 ≠ x := fun e => hn.1 (List.mem_map.2 ⟨_, List.mem_of_getElem? h', e.symm⟩)
      have := ih hn.2 h'
      simp only [mdel, List.filter_cons, List.eraseIdx_cons_succ] at this ⊢
      rw [if_pos (by simpa using hne), this]

theorem mdel_none {l : List (κ × Value)} {x : κ} (h : ∀ p ∈ l, p.1 ≠ x) : mdel l x = l := List.filter_eq_self.2 (fun p hp => by simpa using h p hp)

/-- 'm[k] = v'. -/
theorem st_mapUpdate {T e : TypeId} {m x y : Operand} {b : Nat} {l : List (κ × Value)} {xk : κ} {v : Value} {L' : List HP} [hT : MapT P T k e] (KT' : KT P k kv ok) (hs : Sat w0 w L) (hm : a.eval m = .map (some b))
    (hx : a.eval x = kv xk) (hy : a.eval y = v) (ho : Out (mp kv ok b l) L L') (hok : ok xk)
    (h : ∀ w1, Sat w0 w1 (mp kv ok b (mput l xk v) :: L') → K (a.put dst undef) w1) : Oper.wp P ⟨dst, .mapUpdate T m x y, ty, pos, aft, gd⟩ a w K Q := by
  obtain ⟨es, clock, hS, hb, h1, h2, h3⟩ := (hs.out ho).mp_inv
  obtain ⟨lx, hlx⟩ := KT'.key xk hok
  rcases mp_find KT' w h2 h3 hok with ⟨f1, f0, f2⟩ | ⟨j, en, f1, f2, f3, f4⟩
  · refine st_do_skip rfl (w' := ChangeMaps.setBlock w b (.map (es.push ⟨kv xk, v, clock⟩) (clock + 1))) ?_ (h _ (Sat.mp_mk hS.setBlk (MapKept.stamped_push h1 f0) ?_ ?_))
    · simp [execOp, Instr.mapUpdate, hm, hx, hy, run_underlying hT.h, MapKept.run_getObj_map hb, KT'.law.check w false hlx, f1, MapKept.run_setObj_map _ hb, Result.andThen, ChangeMaps.setBlock]
    · rw [mput_none f2, Array.toList_push, List.map_append, h2, List.map_append]; rfl
    · rw [mput_none f2]
      intro p hp
      rcases List.mem_append.1 hp with hp | hp
      · exact h3 p hp
      · simp only [List.mem_singleton] at hp; subst hp; exact hok
  · have hj : es[j]? = some en := by simpa using f2
    have hm1 := mput_at (v := v) (mp_nodup h1 h2) f4
    refine st_do_skip rfl (w' := ChangeMaps.setBlock w b (.map (es.modify j fun e' => { e' with key := kv xk, val := v }) clock)) ?_ (h _ (Sat.mp_mk hS.setBlk (MapKept.stamped_modify h1 _ _ (fun _ _ => rfl) (fun e' _ he' => by rw [hj] at he'; cases he'; exact f3.symm)) ?_ ?_))
    · simp [execOp, Instr.mapUpdate, hm, hx, hy, run_underlying hT.h, MapKept.run_getObj_map hb, KT'.law.check w false hlx, f1, hj, f3, KT'.law.stays w hlx, MapKept.run_setObj_map _ hb, Result.andThen, ChangeMaps.setBlock]
    · rw [hm1, Array.toList_modify, List.map_set, ← h2]
      apply List.ext_getElem?
      intro i
      rw [List.getElem?_map, List.getElem?_modify, List.getElem?_set]
      split
      · rename_i e1; subst e1; rw [f2]; have hjl := (List.getElem?_eq_some_iff.1 f2).1; simp only [Array.length_toList] at hjl; simp [hjl]
      · rw [List.getElem?_map]; simp
    · rw [hm1]
      intro p hp
      rcases List.mem_or_eq_of_mem_set hp with hp | rfl
      · exact h3 p hp
      · exact hok

/-- 'delete(m, k)'. -/
theorem st_delete {T e : TypeId} {m x : Operand} {b : Nat} {l : List (κ × Value)} {xk : κ} {L' : List HP} [hT : MapT P T k e] (KT' : KT P k kv ok) (hs : Sat w0 w L) (hm : a.eval m = .map (some b))
    (hx : a.eval x = kv xk) (ho : Out (mp kv ok b l) L L') (hok : ok xk)
    (h : ∀ w1, Sat w0 w1 (mp kv ok b (mdel l xk) :: L') → K (a.put dst (.tuple #[])) w1) : Oper.wp P ⟨dst, .call { callee := .builtin .delete, args := #[m, x], argTypes := #[T, k] }, ty, pos, aft, gd⟩ a w K Q := by
  obtain ⟨es, clock, hS, hb, h1, h2, h3⟩ := (hs.out ho).mp_inv
  obtain ⟨lx, hlx⟩ := KT'.key xk hok
  rcases mp_find KT' w h2 h3 hok with ⟨f1, f0, f2⟩ | ⟨j, en, f1, f2, f3, f4⟩
  · have hrun : (Builtin.delete_ #[T, k] ty #[.map (some b), kv xk]).run P w = .ok (.tuple #[]) (ChangeMaps.setBlock w b (.map es clock)) := by
      simp [Builtin.delete_, run_underlying hT.h, MapKept.run_getObj_map hb, KT'.law.check w _ hlx, f1, MapKept.run_setObj_map _ hb, Result.andThen, ChangeMaps.setBlock]
    unfold Oper.wp
    simp [execOp, resolve, invoke, builtin, hm, hx, hrun, Result.andThen]
    exact h _ (Sat.mp_mk hS.setBlk h1 (by rw [mdel_none f2]; exact h2) (by rw [mdel_none f2]; exact h3))
  · have hjs : j < es.size := by have := (List.getElem?_eq_some_iff.1 f2).1; simpa using this
    have hsub : (es.eraseIdxIfInBounds j).toList = es.toList.eraseIdx j := by
      unfold Array.eraseIdxIfInBounds
      rw [dif_pos hjs]
      simp
    have hrun : (Builtin.delete_ #[T, k] ty #[.map (some b), kv xk]).run P w = .ok (.tuple #[]) (ChangeMaps.setBlock w b (.map (es.eraseIdxIfInBounds j) clock)) := by
      simp [Builtin.delete_, run_underlying hT.h, MapKept.run_getObj_map hb, KT'.law.check w _ hlx, f1, MapKept.run_setObj_map _ hb, Result.andThen, ChangeMaps.setBlock]
    have hm1 := mdel_at (mp_nodup h1 h2) f4
    unfold Oper.wp
    simp [execOp, resolve, invoke, builtin, hm, hx, hrun, Result.andThen]
    refine h _ (Sat.mp_mk hS.setBlk (MapKept.stamped_erase h1 j) ?_ ?_)
    · rw [hm1, hsub, map_eraseIdx', h2, map_eraseIdx']
    · rw [hm1]; intro p hp; exact h3 p ((List.eraseIdx_sublist _ _).subset hp)

end
/-! ### Ranging over a map -/
/-- A map in block b, and an iterator over it in block r: what it holds, what is still to come, which entry has come last. -/
def mpi {κ : Type} (kv : κ → Value) (ok : κ → Prop) (b r : Nat) (l left : List (κ × Value)) (cur : Option (κ × Value)) : HP := fun h =>
  ∃ es clock since seen c0, SatH [blk b (.map es clock), blk r (.mapIter (some b) since seen c0)] h ∧ MapKept.Stamped es clock ∧ es.toList.map (fun e => (e.key, e.val)) = l.map (fun p => (kv p.1, p.2)) ∧ (∀ p ∈ l, ok p.1) ∧
    (∀ x ∈ es.toList, x.born < since) ∧ (since ≤ c0 ∧ since ≤ clock) ∧ (leftOf es seen).toList.map (fun e => (e.key, e.val)) = left.map (fun p => (kv p.1, p.2)) ∧
    ∀ p, cur = some p → ∃ e s', e ∈ es.toList ∧ e.key = kv p.1 ∧ e.val = p.2 ∧ seen = Array.push s' e.born ∧ c0 = clock

section
variable {κ : Type} {P : Program} {k : TypeId} {kv : κ → Value} {ok : κ → Prop} {w0 w : World} {L : List HP}
variable {K : Act → World → Prop} {Q : Exit → Act → World → Prop} {a : Act}
variable {dst : Option Tmp} {ty : TypeId} {pos : String} {aft : Array Edge} {gd : Option (Nat × Bool)}

theorem Sat.mpi_inv {b r : Nat} {l left : List (κ × Value)} {cur : Option (κ × Value)} (hs : Sat w0 w (mpi kv ok b r l left cur :: L)) :
    ∃ es clock since seen c0, Sat w0 w (blk r (.mapIter (some b) since seen c0) :: blk b (.map es clock) :: L) ∧ MapKept.Stamped es clock ∧ es.toList.map (fun e => (e.key, e.val)) = l.map (fun p => (kv p.1, p.2)) ∧ (∀ p ∈ l, ok p.1) ∧
      (∀ x ∈ es.toList, x.born < since) ∧ (since ≤ c0 ∧ since ≤ clock) ∧ (leftOf es seen).toList.map (fun e => (e.key, e.val)) = left.map (fun p => (kv p.1, p.2)) ∧
      ∀ p, cur = some p → ∃ e s', e ∈ es.toList ∧ e.key = kv p.1 ∧ e.val = p.2 ∧ seen = Array.push s' e.born ∧ c0 = clock := by
  obtain ⟨h1, h2, ⟨es, clock, since, seen, c0, hS, hr⟩, h3⟩ := hs.heap
  have hh : Sat w0 w (SatH [blk b (.map es clock), blk r (.mapIter (some b) since seen c0)] :: L) := ⟨hs.os, hs.tape, hs.output, h1, h2, hS, h3⟩
  exact ⟨es, clock, since, seen, c0, hh.split.swap, hr⟩

theorem Sat.mpi_mk {b r : Nat} {l left : List (κ × Value)} {cur : Option (κ × Value)} {es : Array MapEntry} {clock since c0 : Nat} {seen : Array Nat} (hs : Sat w0 w (blk r (.mapIter (some b) since seen c0) :: blk b (.map es clock) :: L))
    (h1 : MapKept.Stamped es clock) (h2 : es.toList.map (fun e => (e.key, e.val)) = l.map (fun p => (kv p.1, p.2))) (h3 : ∀ p ∈ l, ok p.1)
    (h4 : ∀ x ∈ es.toList, x.born < since) (h5 : since ≤ c0 ∧ since ≤ clock) (h6 : (leftOf es seen).toList.map (fun e => (e.key, e.val)) = left.map (fun p => (kv p.1, p.2)))
    (h7 : ∀ p, cur = some p → ∃ e s', e ∈ es.toList ∧ e.key = kv p.1 ∧ e.val = p.2 ∧ seen = Array.push s' e.born ∧ c0 = clock) : Sat w0 w (mpi kv ok b r l left cur :: L) := by
  have hh : Sat w0 w (SatH [blk b (.map es clock), blk r (.mapIter (some b) since seen c0)] :: L) := Sat.join (M := [blk b (.map es clock), blk r (.mapIter (some b) since seen c0)]) hs.swap
  exact hh.to_head fun _ hb => ⟨es, clock, since, seen, c0, hb, h1, h2, h3, h4, h5, h6, h7⟩

/-- Behind the loop. -/
theorem Sat.mpi_end {b r : Nat} {l left : List (κ × Value)} {cur : Option (κ × Value)} (hs : Sat w0 w (mpi kv ok b r l left cur :: L)) : Sat w0 w (mp kv ok b l :: L) := by
  obtain ⟨es, clock, since, seen, c0, h0, h1, h2, h3, _⟩ := hs.mpi_inv
  exact Sat.mp_mk h0.tail h1 h2 h3

/-- 'range m'. -/
theorem st_range {T e : TypeId} {m : Operand} {b : Nat} {l : List (κ × Value)} {L' : List HP} [hT : MapT P T k e] (hs : Sat w0 w L) (hm : a.eval m = .map (some b)) (ho : Out (mp kv ok b l) L L')
    (h : ∀ r w1, Sat w0 w1 (mpi kv ok b r l l none :: L') → K (a.put dst (.pointer (some ⟨r, 0, none⟩))) w1) : Oper.wp P ⟨dst, .range T m, ty, pos, aft, gd⟩ a w K Q := by
  obtain ⟨es, clock, hS, hb, h1, h2, h3⟩ := (hs.out ho).mp_inv
  refine st_do rfl (v := .pointer (some ⟨w.heap.size, 0, none⟩)) (w' := w.alloc (.mapIter (some b) clock #[] clock)) ?_ (h _ _ (Sat.mpi_mk (hS.alloc _) h1 h2 h3 h1.1 ⟨Nat.le_refl _, Nat.le_refl _⟩ ?_ ?_))
  · simp [execOp, Instr.range, hm, run_underlying hT.h, MapKept.run_getObj_map hb, Result.andThen]
  · have : leftOf es #[] = es := by unfold leftOf; simp
    rw [this]; exact h2
  · intro p hp; cases hp

theorem st_next_done {it : Operand} {b r : Nat} {l : List (κ × Value)} {cur : Option (κ × Value)} {L' : List HP} (hs : Sat w0 w L) (hi : a.eval it = .pointer (some ⟨r, 0, none⟩)) (ho : Out (mpi kv ok b r l [] cur) L L')
    (h : K (a.put dst (.tuple #[.bool false])) w) : Oper.wp P ⟨dst, .next it false, ty, pos, aft, gd⟩ a w K Q := by
  obtain ⟨es, clock, since, seen, c0, h0, h1, h2, h3, h4, h5, h6, _⟩ := (hs.out ho).mpi_inv
  have hr := h0.get (.here _)
  have hb := h0.get (.there _ _ _ (.here _))
  rcases run_next_at (P := P) w ty r b since c0 seen es clock hr hb h4 h5.1 with ⟨_, hrun⟩ | ⟨e, he, _⟩
  · refine st_do rfl (v := .tuple #[.bool false]) (w' := w) ?_ h
    simp [execOp, hi, hrun, Result.andThen]
  · have : (leftOf es seen).toList = [] := by simpa using h6
    rw [this] at he; cases he

theorem filter_eraseIdx {α : Type} {p : α → Bool} : ∀ {l : List α} {j : Nat} {x : α}, l[j]? = some x → p x = false → (l.eraseIdx j).filter p = l.filter p
  | [], _, _, h, _ => by simp at h
  | y :: l, 0, x, h, hp => by simp at h; subst h; simp [hp]
  | y :: l, j + 1, x, h, hp => by
    have h1 : l[j]? = some x := by simpa using h
    simp only [List.eraseIdx_cons_succ, List.filter_cons, filter_eraseIdx h1 hp]

theorem entry_of_born {es : Array MapEntry} {clock : Nat} (h : MapKept.Stamped es clock) {x y : MapEntry} (hx : x ∈ es.toList) (hy : y ∈ es.toList) (e : x.born = y.born) : x = y := by
  obtain ⟨i, hi⟩ := List.mem_iff_getElem?.1 hx
  obtain ⟨j, hj⟩ := List.mem_iff_getElem?.1 hy
  have h1 : (es.toList.map (·.born))[i]? = some x.born := by rw [List.getElem?_map, hi]; rfl
  have h2 : (es.toList.map (·.born))[j]? = some x.born := by rw [List.getElem?_map, hj, e]; rfl
  have hij := (List.getElem?_inj (List.getElem?_eq_some_iff.1 h1).1 h.2.1).1 (h1.trans h2.symm)
  subst hij
  rw [hi] at hj; cases hj; rfl

theorem entry_of_key {es : Array MapEntry} {clock : Nat} (h : MapKept.Stamped es clock) {x y : MapEntry} (hx : x ∈ es.toList) (hy : y ∈ es.toList) (e : x.key = y.key) : x = y := by
  obtain ⟨i, hi⟩ := List.mem_iff_getElem?.1 hx
  obtain ⟨j, hj⟩ := List.mem_iff_getElem?.1 hy
  have h1 : (es.toList.map (·.key))[i]? = some x.key := by rw [List.getElem?_map, hi]; rfl
  have h2 : (es.toList.map (·.key))[j]? = some x.key := by rw [List.getElem?_map, hj, e]; rfl
  have hij := (List.getElem?_inj (List.getElem?_eq_some_iff.1 h1).1 h.2.2).1 (h1.trans h2.symm)
  subst hij
  rw [hi] at hj; cases hj; rfl

theorem filter_map_eq {α β γ : Type} {f : α → γ} {g : β → γ} {p : α → Bool} {q : β → Bool} : ∀ {A : List α} {B : List β}, (∀ x ∈ A, ∀ y, f x = g y → p x = q y) → A.map f = B.map g → (A.filter p).map f = (B.filter q).map g
  | [], [], _, _ => rfl
  | [], _ :: _, _, h => by simp at h
  | _ :: _, [], _, h => by simp at h
  | x :: A, y :: B, hp, h => by
    simp only [List.map_cons, List.cons.injEq] at h
    have h1 := hp x (by simp) y h.1
    have ih := filter_map_eq (fun z hz => hp z (by simp [hz])) h.2
    simp only [List.filter_cons]
    rw [h1]
    split
    · simp only [List.map_cons, h.1, ih]
    · exact ih
end

section
variable {κ : Type} [DecidableEq κ] {P : Program} {k : TypeId} {kv : κ → Value} {ok : κ → Prop} {w0 w : World} {L : List HP}
variable {K : Act → World → Prop} {Q : Exit → Act → World → Prop} {a : Act}
variable {dst : Option Tmp} {ty : TypeId} {pos : String} {aft : Array Edge} {gd : Option (Nat × Bool)}

theorem st_next_more {it : Operand} {b r : Nat} {l left : List (κ × Value)} {cur : Option (κ × Value)} {L' : List HP} (KT' : KT P k kv ok) (hs : Sat w0 w L) (hi : a.eval it = .pointer (some ⟨r, 0, none⟩)) (ho : Out (mpi kv ok b r l left cur) L L') (hl : left ≠ [])
    (h : ∀ x v w1, (x, v) ∈ left → (x, v) ∈ l → Sat w0 w1 (mpi kv ok b r l (mdel left x) (some (x, v)) :: L') → K (a.put dst (.tuple #[.bool true, kv x, v])) w1) : Oper.wp P ⟨dst, .next it false, ty, pos, aft, gd⟩ a w K Q := by
  obtain ⟨es, clock, since, seen, c0, h0, h1, h2, h3, h4, h5, h6, _⟩ := (hs.out ho).mpi_inv
  have hr := h0.get (.here _)
  have hb := h0.get (.there _ _ _ (.here _))
  rcases run_next_at (P := P) w ty r b since c0 seen es clock hr hb h4 h5.1 with ⟨hz, _⟩ | ⟨e, he, w1, hw1, hrun⟩
  · exact absurd (by have := congrArg List.length h6; simp only [List.length_map, Array.length_toList] at this; exact List.eq_nil_of_length_eq_zero (by omega)) hl
  · have h8 : (e.key, e.val) ∈ left.map (fun p => (kv p.1, p.2)) := by rw [← h6]; exact List.mem_map.2 ⟨e, he, rfl⟩
    obtain ⟨⟨x, v⟩, hp, h9⟩ := List.mem_map.1 h8
    simp only [Prod.mk.injEq] at h9
    obtain ⟨hk, hv⟩ := h9
    have hes : e ∈ es.toList := by unfold leftOf at he; simp at he ⊢; exact he.1
    have hpl : (x, v) ∈ l := by
      have h10 : (e.key, e.val) ∈ l.map (fun p => (kv p.1, p.2)) := by rw [← h2]; exact List.mem_map.2 ⟨e, hes, rfl⟩
      obtain ⟨⟨x', v'⟩, hp', h11⟩ := List.mem_map.1 h10
      simp only [Prod.mk.injEq] at h11
      have := KT'.inj _ _ (h11.1.trans hk.symm)
      subst this
      rw [hv, ← h11.2]; exact hp'
    have hw : Sat w0 w1 (blk r (.mapIter (some b) since seen c0) :: blk b (.map es clock) :: L') := by
      rcases hw1 with rfl | rfl
      · exact h0
      · exact h0.drew
    refine st_do rfl (v := .tuple #[.bool true, e.key, e.val]) (w' := ChangeMaps.setBlock w1 r (.mapIter (some b) since (seen.push e.born) clock)) ?_ ?_
    · simp [execOp, hi, hrun, Result.andThen]
    · rw [← hk, ← hv]
      refine h x v _ hp hpl (Sat.mpi_mk hw.setBlk h1 h2 h3 h4 ⟨h5.2, h5.2⟩ ?_ ?_)
      · have e1 : (leftOf es (seen.push e.born)).toList = (leftOf es seen).toList.filter (fun y => y.born != e.born) := by
          unfold leftOf
          simp only [Array.toList_filter, List.filter_filter]
          apply List.filter_congr
          intro y _
          simp [Bool.and_comm]
          rw [Bool.eq_iff_iff]; simp
        rw [e1]
        refine filter_map_eq (fun y hy p hyp => ?_) h6
        have hye : y ∈ es.toList := by unfold leftOf at hy; simp at hy ⊢; exact hy.1
        simp only [Prod.mk.injEq] at hyp
        have e2 : y.born = e.born ↔ p.1 = x := by
          constructor
          · intro hb2
            have : y = e := entry_of_born h1 hye hes hb2
            subst this
            exact KT'.inj _ _ (hyp.1.symm.trans hk.symm)
          · intro hx2
            have : y = e := entry_of_key h1 hye hes (by rw [hyp.1, hx2, hk])
            rw [this]
        by_cases hc : p.1 = x
        · simp [hc, e2.2 hc]
        · have : y.born ≠ e.born := fun e3 => hc (e2.1 e3)
          simp [hc, this]
      · intro p hp2
        cases hp2
        exact ⟨e, seen, hes, hk.symm, hv.symm, rfl, rfl⟩

/-- 'delete(m, k)' while the map is ranged over. -/
theorem st_delete_mpi {T e : TypeId} {m x : Operand} {b r : Nat} {l left : List (κ × Value)} {cur : Option (κ × Value)} {xk : κ} {L' : List HP} [hT : MapT P T k e] (KT' : KT P k kv ok) (hs : Sat w0 w L) (hm : a.eval m = .map (some b))
    (hx : a.eval x = kv xk) (ho : Out (mpi kv ok b r l left cur) L L') (hok : ok xk) (hnot : ∀ p ∈ left, p.1 ≠ xk)
    (h : ∀ w1, Sat w0 w1 (mpi kv ok b r (mdel l xk) left none :: L') → K (a.put dst (.tuple #[])) w1) : Oper.wp P ⟨dst, .call { callee := .builtin .delete, args := #[m, x], argTypes := #[T, k] }, ty, pos, aft, gd⟩ a w K Q := by
  obtain ⟨es, clock, since, seen, c0, h0, h1, h2, h3, h4, h5, h6, _⟩ := (hs.out ho).mpi_inv
  have hb := h0.get (.there _ _ _ (.here _))
  obtain ⟨lx, hlx⟩ := KT'.key xk hok
  rcases mp_find KT' w h2 h3 hok with ⟨f1, f0, f2⟩ | ⟨j, en, f1, f2, f3, f4⟩
  · have hrun : (Builtin.delete_ #[T, k] ty #[.map (some b), kv xk]).run P w = .ok (.tuple #[]) (ChangeMaps.setBlock w b (.map es clock)) := by
      simp [Builtin.delete_, run_underlying hT.h, MapKept.run_getObj_map hb, KT'.law.check w _ hlx, f1, MapKept.run_setObj_map _ hb, Result.andThen, ChangeMaps.setBlock]
    unfold Oper.wp
    simp [execOp, resolve, invoke, builtin, hm, hx, hrun, Result.andThen]
    exact h _ (Sat.mpi_mk h0.swap.setBlk.swap h1 (by rw [mdel_none f2]; exact h2) (by rw [mdel_none f2]; exact h3) h4 h5 h6 (fun p hp => by cases hp))
  · have hjs : j < es.size := by have := (List.getElem?_eq_some_iff.1 f2).1; simpa using this
    have hsub : (es.eraseIdxIfInBounds j).toList = es.toList.eraseIdx j := by
      unfold Array.eraseIdxIfInBounds
      rw [dif_pos hjs]
      simp
    have hrun : (Builtin.delete_ #[T, k] ty #[.map (some b), kv xk]).run P w = .ok (.tuple #[]) (ChangeMaps.setBlock w b (.map (es.eraseIdxIfInBounds j) clock)) := by
      simp [Builtin.delete_, run_underlying hT.h, MapKept.run_getObj_map hb, KT'.law.check w _ hlx, f1, MapKept.run_setObj_map _ hb, Result.andThen, ChangeMaps.setBlock]
    have hm1 := mdel_at (mp_nodup h1 h2) f4
    unfold Oper.wp
    simp [execOp, resolve, invoke, builtin, hm, hx, hrun, Result.andThen]
    refine h _ (Sat.mpi_mk h0.swap.setBlk.swap (MapKept.stamped_erase h1 j) ?_ ?_ ?_ h5 ?_ (fun p hp => by cases hp))
    · rw [hm1, hsub, map_eraseIdx', h2, map_eraseIdx']
    · rw [hm1]; intro p hp; exact h3 p ((List.eraseIdx_sublist _ _).subset hp)
    · intro y hy; rw [hsub] at hy; exact h4 y ((List.eraseIdx_sublist _ _).subset hy)
    · rw [← h6]
      have hnl : en ∉ (leftOf es seen).toList := fun hin => by
        have h8 : (en.key, en.val) ∈ left.map (fun p => (kv p.1, p.2)) := by rw [← h6]; exact List.mem_map.2 ⟨en, hin, rfl⟩
        obtain ⟨p, hp, h9⟩ := List.mem_map.1 h8
        simp only [Prod.mk.injEq] at h9
        exact hnot p hp (KT'.inj _ _ (h9.1.trans f3))
      congr 1
      unfold leftOf at hnl ⊢
      simp only [Array.toList_filter] at hnl ⊢
      rw [hsub]
      exact filter_eraseIdx f2 (by
        by_cases hc : seen.contains en.born = true
        · rw [hc]; rfl
        · exfalso
          apply hnl
          rw [List.mem_filter]
          exact ⟨List.mem_of_getElem? f2, by simpa using hc⟩)
end

section
variable {κ : Type} {P : Program} {kv : κ → Value} {ok : κ → Prop} {w0 w : World} {L : List HP} {a : Act}
variable {dst : Option Tmp} {ty : TypeId} {pos : String} {aft : Array Edge} {gd : Option (Nat × Bool)}
/-- The round's key and element. -/
theorem yl_entry {it : Operand} {b r : Nat} {l left : List (κ × Value)} {x : κ} {v : Value} {L' : List HP} (hs : Sat w0 w L) (hi : a.eval it = .pointer (some ⟨r, 0, none⟩)) (ho : Out (mpi kv ok b r l left (some (x, v))) L L') :
    (execOp a.eval ⟨dst, .entry it, ty, pos, aft, gd⟩).run P w = .ok (.value (.tuple #[kv x, v])) w := by
  obtain ⟨es, clock, since, seen, c0, h0, h1, h2, h3, h4, h5, h6, h7⟩ := (hs.out ho).mpi_inv
  obtain ⟨e, s', he, hk, hv, rfl, rfl⟩ := h7 _ rfl
  have hr := h0.get (.here _)
  have hb := h0.get (.there _ _ _ (.here _))
  have hrun := run_entry_at (P := P) w r b since s' es c0 e hr hb he h1.2.1
  simp only at hk hv
  simp [execOp, hi, hrun, Result.andThen, hk, hv]
end
#print axioms yl_entry
end Sl
