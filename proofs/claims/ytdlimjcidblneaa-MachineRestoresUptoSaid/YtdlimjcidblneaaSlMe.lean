/-
  Maps as resources: 'm[k] = v' in two steps (the entry first, the value behind other work). No Go program in it.
-/
import Derived.Test.YtdlimjcidblneaaWk
import Derived.WideKeyEntry
namespace Sl
open Go Go.RowKit Go.Maps

section
variable {κ : Type} {P : Program} {k : TypeId} {kv : κ → Value} {ok : κ → Prop}
/-- Block b holds a map; the entry of key x bears the stamp st. -/
def mpx (kv : κ → Value) (ok : κ → Prop) (b : Nat) (l : List (κ × Value)) (x : κ) (st : Nat) : HP := fun h =>
  ∃ es clock, h b = some (.map es clock) ∧ MapKept.Stamped es clock ∧ es.toList.map (fun e => (e.key, e.val)) = l.map (fun p => (kv p.1, p.2)) ∧ (∀ p ∈ l, ok p.1) ∧ ∃ (j : Nat) (e : MapEntry), es.toList[j]? = some e ∧ e.key = kv x ∧ e.born = st

variable {w0 w : World} {L : List HP}
theorem Sat.mpx_inv {b : Nat} {l : List (κ × Value)} {x : κ} {st : Nat} (hs : Sat w0 w (mpx kv ok b l x st :: L)) :
    ∃ es clock, Sat w0 w (blk b (.map es clock) :: L) ∧ w.heap[b]? = some (.map es clock) ∧ MapKept.Stamped es clock ∧ es.toList.map (fun e => (e.key, e.val)) = l.map (fun p => (kv p.1, p.2)) ∧ (∀ p ∈ l, ok p.1) ∧ ∃ (j : Nat) (e : MapEntry), es.toList[j]? = some e ∧ e.key = kv x ∧ e.born = st := by
  obtain ⟨h1, h2, ⟨es, clock, hb, hr⟩, h3⟩ := hs.heap
  have hh : Sat w0 w (blk b (.map es clock) :: L) := ⟨hs.os, hs.tape, hs.output, h1, h2, hb, h3⟩
  exact ⟨es, clock, hh, hh.get (.here _), hr⟩

theorem Sat.mpx_mk {b : Nat} {es : Array MapEntry} {clock : Nat} {l : List (κ × Value)} {x : κ} {st : Nat} (hs : Sat w0 w (blk b (.map es clock) :: L)) (h1 : MapKept.Stamped es clock) (h2 : es.toList.map (fun e => (e.key, e.val)) = l.map (fun p => (kv p.1, p.2))) (h3 : ∀ p ∈ l, ok p.1)
    (h4 : ∃ (j : Nat) (e : MapEntry), es.toList[j]? = some e ∧ e.key = kv x ∧ e.born = st) : Sat w0 w (mpx kv ok b l x st :: L) := hs.to_head fun _ hb => ⟨es, clock, hb, h1, h2, h3, h4⟩
end

theorem mput_mput {κ : Type} [DecidableEq κ] (l : List (κ × Value)) (x : κ) (u v : Value) : mput (mput l x u) x v = mput l x v := by
  unfold mput
  by_cases h : l.any (fun p => decide (p.1 = x)) = true
  · rw [if_pos h, if_pos h]
    have h2 : (l.map fun p => if p.1 = x then (x, u) else p).any (fun p => decide (p.1 = x)) = true := by
      obtain ⟨p, hp, e⟩ := List.any_eq_true.1 h
      refine List.any_eq_true.2 ⟨_, List.mem_map.2 ⟨p, hp, rfl⟩, ?_⟩
      simp only [decide_eq_true_eq] at e
      rw [if_pos e]; simp
    rw [if_pos h2, List.map_map]
    refine List.map_congr_left fun p _ => ?_
    simp only [Function.comp]
    by_cases e : p.1 = x
    · rw [if_pos e]; simp [e]
    · rw [if_neg e, if_neg e]
  · rw [if_neg h, if_neg h]
    rw [if_pos (by simp)]
    have hn : ∀ p ∈ l, p.1 ≠ x := fun p hp e => h (List.any_eq_true.2 ⟨p, hp, by simpa using e⟩)
    rw [List.map_append]
    have : (l.map fun p => if p.1 = x then (x, v) else p) = l := by
      conv => rhs; rw [← List.map_id l]
      exact List.map_congr_left fun p hp => by rw [if_neg (hn p hp)]; rfl
    rw [this]; simp

section
variable {κ : Type} [DecidableEq κ] {P : Program} {k : TypeId} {kv : κ → Value} {ok : κ → Prop}
variable {K : Act → World → Prop} {Q : Exit → Act → World → Prop} {a : Act} {w0 w : World} {L : List HP}
variable {dst : Option Tmp} {ty : TypeId} {pos : String} {aft : Array Edge} {gd : Option (Nat × Bool)}

/-- The entry of a key, made if it is not there. -/
theorem st_mapEntry {T e : TypeId} {z : Value} {sz by_ : Nat} {m x : Operand} {b : Nat} {l : List (κ × Value)} {xk : κ} {L' : List HP} [hT : MapT P T k e] [hi : Inf P e z sz by_] (KT' : KT P k kv ok) (hs : Sat w0 w L) (hm : a.eval m = .map (some b))
    (hx : a.eval x = kv xk) (ho : Out (mp kv ok b l) L L') (hok : ok xk)
    (h : ∀ v0 (st : Nat) w1, Sat w0 w1 (mpx kv ok b (mput l xk v0) xk st :: L') → K (a.put dst (.tuple #[v0, .int .i64 (st : Int)])) w1) : Oper.wp P ⟨dst, .mapEntry T m x, ty, pos, aft, gd⟩ a w K Q := by
  obtain ⟨es, clock, hS, hb, h1, h2, h3⟩ := (hs.out ho).mp_inv
  obtain ⟨lx, hlx⟩ := KT'.key xk hok
  obtain ⟨i, g1, g2, g3, g4, g5⟩ := hi.h
  have hz : ∀ u : World, (zeroValue e).run P u = .ok z u := fun u => by simp [zeroValue, typeInfo, g1, g2]
  rcases mp_find KT' w h2 h3 hok with ⟨f1, f0, f2⟩ | ⟨j, en, f1, f2, f3, f4⟩
  · refine st_do rfl (v := .tuple #[z, .int .i64 (clock : Int)]) (w' := ChangeMaps.setBlock w b (.map (es.push ⟨kv xk, z, clock⟩) (clock + 1))) ?_ (h _ _ _ (Sat.mpx_mk hS.setBlk (MapKept.stamped_push h1 f0) ?_ ?_ ?_))
    · simp [execOp, Instr.mapEntry, hm, hx, run_underlying hT.h, MapKept.run_getObj_map hb, KT'.law.check w false hlx, f1, hz, MapKept.run_setObj_map _ hb, Result.andThen, ChangeMaps.setBlock, goInt]
    · rw [mput_none f2, Array.toList_push, List.map_append, h2, List.map_append]; rfl
    · rw [mput_none f2]
      intro p hp
      rcases List.mem_append.1 hp with hp | hp
      · exact h3 p hp
      · simp only [List.mem_singleton] at hp; subst hp; exact hok
    · exact ⟨es.toList.length, ⟨kv xk, z, clock⟩, by rw [Array.toList_push]; simp, rfl, rfl⟩
  · have hj : es[j]? = some en := by simpa using f2
    have hsame : es.modify j (fun e => { e with key := kv xk }) = es := by
      apply Array.ext'
      rw [Array.toList_modify]
      apply List.ext_getElem?
      intro i
      rw [List.getElem?_modify]
      cases hi' : es.toList[i]? with
      | none => simp
      | some y =>
        by_cases e : j = i
        · subst e; rw [f2] at hi'; cases hi'; rw [← f3]; simp
        · simp [e]
    have hm1 : mput l xk en.val = l := by
      rw [mput_at (mp_nodup h1 h2) f4]
      apply List.ext_getElem?
      intro i
      rw [List.getElem?_set]
      split
      · rename_i e; subst e; rw [f4]; simp [(List.getElem?_eq_some_iff.1 f4).1]
      · rfl
    refine st_do rfl (v := .tuple #[en.val, .int .i64 (en.born : Int)]) (w' := ChangeMaps.setBlock w b (.map es clock)) ?_ (h _ _ _ (Sat.mpx_mk hS.setBlk h1 ?_ ?_ ⟨j, en, f2, f3, rfl⟩))
    · simp [execOp, Instr.mapEntry, hm, hx, run_underlying hT.h, MapKept.run_getObj_map hb, KT'.law.check w false hlx, f1, hj, f3, KT'.law.stays w hlx, hsame, MapKept.run_setObj_map _ hb, Result.andThen, ChangeMaps.setBlock, goInt]
    · rw [hm1]; exact h2
    · rw [hm1]; exact h3

/-- Its value. -/
theorem st_entryStore {T : TypeId} {m s y : Operand} {b st : Nat} {l : List (κ × Value)} {xk : κ} {v : Value} {L' : List HP} (hok : ok xk) (hinj : ∀ x y, kv x = kv y → x = y) (hs : Sat w0 w L) (hm : a.eval m = .map (some b))
    (hx : a.eval s = .int .i64 (st : Int)) (hy : a.eval y = v) (ho : Out (mpx kv ok b l xk st) L L')
    (h : ∀ w1, Sat w0 w1 (mp kv ok b (mput l xk v) :: L') → K (a.put dst undef) w1) : Oper.wp P ⟨dst, .entryStore T m s y, ty, pos, aft, gd⟩ a w K Q := by
  obtain ⟨es, clock, hS, hb, h1, h2, h3, j, en, f2, f3, f4⟩ := (hs.out ho).mpx_inv
  have hj : es[j]? = some en := by simpa using f2
  have hlj : l[j]? = some (xk, en.val) := by
    have := congrArg (fun z => z[j]?) h2
    simp only [List.getElem?_map, f2, Option.map_some] at this
    cases hp : l[j]? with
    | none => rw [hp] at this; cases this
    | some p =>
      rw [hp] at this
      simp only [Option.map_some, Option.some.injEq, Prod.mk.injEq] at this
      have e := hinj _ _ (f3.symm.trans this.1)
      rw [e, this.2]
  have hm1 := mput_at (v := v) (mp_nodup h1 h2) hlj
  have hidx : es.findIdx? (fun e => ((e.born : Nat) : Int) == ((st : Nat) : Int)) = some j := by
    rw [Go.WideElems.findIdx_arr, ← f4]
    exact Go.WideElems.findIdx_born h1.2.1 f2
  refine st_do_skip rfl (w' := ChangeMaps.setBlock w b (.map (es.modify j fun e' => { e' with val := v }) clock)) ?_ (h _ (Sat.mp_mk hS.setBlk (MapKept.stamped_modify h1 _ _ (fun _ _ => rfl) (fun e' _ _ => rfl)) ?_ ?_))
  · simp [execOp, Instr.entryStore, hm, hx, hy, MapKept.run_getObj_map hb, asInt, asIntOf, hidx, MapKept.run_setObj_map _ hb, Result.andThen, ChangeMaps.setBlock]
  · rw [hm1, Array.toList_modify, List.map_set, ← h2]
    apply List.ext_getElem?
    intro i
    rw [List.getElem?_map, List.getElem?_modify, List.getElem?_set]
    split
    · rename_i e1; subst e1; rw [f2]; have hjl := (List.getElem?_eq_some_iff.1 f2).1; simp only [Array.length_toList] at hjl; simp [hjl, f3]
    · rw [List.getElem?_map]; simp
  · rw [hm1]
    intro p hp
    rcases List.mem_or_eq_of_mem_set hp with hp | rfl
    · exact h3 p hp
    · exact hok
end
#print axioms st_mapEntry
#print axioms st_entryStore
end Sl
