/-
  Strings as keys of maps, ranges over strings, maps whose keys are pointers. No Go program in it.
-/
import Derived.Test.YtiofgdgmlnhekaaWk
import Derived.Lib.OthersKept
import Derived.Lib.TrimU
import Derived.Shelf.GgClosure.StringsIndexFunc
import Derived.Shelf.SlMaps.Clone
import Derived.LaidEqlPtr
namespace Sl
open Go Go.RowKit Go.Maps

def sV (l : List UInt8) : Value := .string ⟨l.toArray⟩
def okS : List UInt8 → Prop := fun l => l.length ≤ 64
def N8 (l : List (List UInt8)) : List Value := l.map sV

theorem sV_inj {x y : List UInt8} (h : sV x = sV y) : x = y := by
  unfold sV at h
  simp at h
  exact h

theorem ktStr {P : Program} {k : TypeId} (h : P.underlying k = some .string) : KT P k sV okS where
  law := string_keyed h
  key x hx := ⟨.string x, by unfold okS at hx; simp [keyOf, h, mapKey, sV, ByteArray.size, maxLen]; omega⟩
  inj x y e := sV_inj e

section
variable {P : Program} {K : Act → World → Prop} {Q : Exit → Act → World → Prop} {a : Act} {w0 w : World} {L : List HP}
variable {dst : Option Tmp} {ty : TypeId} {pos : String} {aft : Array Edge} {gd : Option (Nat × Bool)}

/-- A range over a string. -/
theorem st_rangeStr {T : TypeId} {x : Operand} {s : ByteArray} [hT : StrT P T] (hs : Sat w0 w L) (hx : a.eval x = .string s)
    (h : ∀ r w1, Sat w0 w1 (blk r (.stringIter s 0) :: L) → K (a.put dst (.pointer (some ⟨r, 0, none⟩))) w1) : Oper.wp P ⟨dst, .range T x, ty, pos, aft, gd⟩ a w K Q := by
  refine st_do rfl (v := .pointer (some ⟨w.heap.size, 0, none⟩)) (w' := w.alloc (.stringIter s 0)) ?_ (h _ _ (hs.alloc _))
  simp [execOp, Instr.range, hx, run_underlying hT.h, Result.andThen]

theorem st_nextStr_more {it : Operand} {r at' : Nat} {s : ByteArray} {L' : List HP} (hs : Sat w0 w L) (hi : a.eval it = .pointer (some ⟨r, 0, none⟩)) (ho : Out (blk r (.stringIter s at')) L L') (hp : at' < s.size)
    (h : ∀ w1, Sat w0 w1 (blk r (.stringIter s (at' + (Utf8.decode s at').2)) :: L') → K (a.put dst (.tuple #[.bool true, .int .i64 at', .int .i32 (Utf8.decode s at').1])) w1) : Oper.wp P ⟨dst, .next it true, ty, pos, aft, gd⟩ a w K Q := by
  have h1 := hs.out ho
  have hb := h1.get (.here _)
  have hlt : r < w.heap.size := (Array.getElem?_eq_some_iff.1 hb).1
  refine st_do rfl (v := .tuple #[.bool true, .int .i64 at', .int .i32 (Utf8.decode s at').1]) (w' := w.iterAt r s (at' + (Utf8.decode s at').2)) ?_ (h _ (h1.put (Lib.iterAt_heap w r s at' _ hb) (fun k hk _ => Lib.iterAt_other w r k s _ hk) rfl rfl rfl))
  simp [execOp, hi, Lib.run_next_any_at w r s at' ty hb hp, Result.andThen]

theorem st_nextStr_done {it : Operand} {r at' : Nat} {s : ByteArray} {L' : List HP} (hs : Sat w0 w L) (hi : a.eval it = .pointer (some ⟨r, 0, none⟩)) (ho : Out (blk r (.stringIter s at')) L L') (hp : ¬ at' < s.size)
    (h : K (a.put dst (.tuple #[.bool false])) w) : Oper.wp P ⟨dst, .next it true, ty, pos, aft, gd⟩ a w K Q := by
  have hb := hs.get ho
  refine st_do rfl (v := .tuple #[.bool false]) (w' := w) ?_ h
  simp [execOp, hi, Lib.run_next_end_at w r s at' ty hb hp, Result.andThen]

/-- A copy of a map's block. -/
theorem Sat.cloned {κ : Type} {kv : κ → Value} {ok : κ → Prop} {b : Nat} {l : List (κ × Value)} (hs : Sat w0 w (mp kv ok b l :: L)) :
    ∃ es clock, w.heap[b]? = some (.map es clock) ∧ Sat w0 (w.alloc (.map es clock)) (mp kv ok w.heap.size l :: mp kv ok b l :: L) := by
  obtain ⟨es, clock, h1, h2, h3, h4, h5⟩ := hs.mp_inv
  exact ⟨es, clock, h2, Sat.mp_mk ((h1.alloc (.map es clock)).swap.to_head (fun _ h => ⟨es, clock, h, h3, h4, h5⟩)).swap h3 h4 h5⟩
end

def iOf : Value → Int | .int _ q => q | _ => 0
theorem hidI {p : Prop} (h : p) : Hid p := h

/-! ### Names -/
def badR (r : Nat) : Bool := decide (r < 33) || decide (126 < r)
def badB (c : UInt8) : Bool := decide (c.toNat < 33) || decide (126 < c.toNat)

theorem decodeN_ge {n b0 b1 b2 b3 : Nat} (h : 128 ≤ b0) : 128 ≤ (Lib.decodeN n b0 b1 b2 b3).1 := by
  unfold Lib.decodeN
  repeat' split
  all_goals (simp only; omega)

theorem get_bang {l : List UInt8} {i : Nat} (h : i < l.length) : ByteArray.get! ⟨l.toArray⟩ i = l[i] := by
  simp [ByteArray.get!, h]

theorem idx_bad (l : List UInt8) : ∀ (f p : Nat), l.length ≤ p + f → (decide (0 ≤ Lib.idxFuncFrom badR true ⟨l.toArray⟩ f p)) = (l.drop p).any badB
  | 0, p, h => by
    rw [List.drop_eq_nil_of_le (by omega)]
    simp [Lib.idxFuncFrom]
  | f + 1, p, h => by
    unfold Lib.idxFuncFrom
    have hsz : (⟨l.toArray⟩ : ByteArray).size = l.length := by simp [ByteArray.size]
    rw [hsz]
    by_cases hp : p < l.length
    · rw [if_pos hp, List.drop_eq_getElem_cons hp, List.any_cons]
      have hg := get_bang hp
      rw [Lib.decode_at, hg]
      by_cases hb : l[p].toNat < 128
      · have e : ∀ n b1 b2 b3, Lib.decodeN n l[p].toNat b1 b2 b3 = (l[p].toNat, 1) := fun n b1 b2 b3 => by unfold Lib.decodeN; rw [if_pos hb]
        rw [e]
        simp only
        have e2 : badR l[p].toNat = badB l[p] := rfl
        rw [e2]
        cases badB l[p]
        · simp only [Bool.false_eq_true, if_false, Bool.false_or]
          exact idx_bad l f (p + 1) (by omega)
        · simp
      · have h1 : 128 ≤ (Lib.decodeN (l.length - p) l[p].toNat (ByteArray.get! ⟨l.toArray⟩ (p + 1)).toNat (ByteArray.get! ⟨l.toArray⟩ (p + 2)).toNat (ByteArray.get! ⟨l.toArray⟩ (p + 3)).toNat).1 := decodeN_ge (by omega)
        have h2 : badR (Lib.decodeN (l.length - p) l[p].toNat (ByteArray.get! ⟨l.toArray⟩ (p + 1)).toNat (ByteArray.get! ⟨l.toArray⟩ (p + 2)).toNat (ByteArray.get! ⟨l.toArray⟩ (p + 3)).toNat).1 = true := by
          unfold badR; simp only [Bool.or_eq_true, decide_eq_true_eq]; exact .inr (by omega)
        have h3 : badB l[p] = true := by unfold badB; simp only [Bool.or_eq_true, decide_eq_true_eq]; exact .inr (by omega)
        rw [hsz, h2, h3]
        simp
    · rw [if_neg hp, List.drop_eq_nil_of_le (by omega)]
      simp

theorem idx_bad0 (l : List UInt8) : decide (0 ≤ Lib.idxFunc badR true ⟨l.toArray⟩) = l.any badB := by
  unfold Lib.idxFunc
  rw [idx_bad l _ 0 (by simp [ByteArray.size])]
  simp

/-! ### Maps whose keys are pointers -/
def pV (p : Nat) : Value := .pointer (some ⟨p, 0, none⟩)
/-- Block b holds a map from pointers (to the heads of these blocks) to true. -/
def pm (b : Nat) (l : List Nat) : HP := fun h =>
  ∃ es clock, h b = some (.map es clock) ∧ es.toList.map (fun e => (e.key, e.val)) = l.map (fun p => (pV p, Value.bool true))

/-- A block of cells stands there. -/
def Celled (w : World) (p : Nat) : Prop := ∃ c t, w.heap[p]? = some (.cells c t (0, 0))

class PtrT (P : Program) (k : TypeId) (e : outParam TypeId) : Prop where
  h : P.underlying k = some (.pointer e) ∧ ∃ j, P.info? e = some j ∧ j.size ≠ 0

section
variable {P : Program} {k e : TypeId}
theorem equal_ptr [hk : PtrT P k e] (w : World) (x y : Nat) (hx : Celled w x) (hy : Celled w y) : (Op.equal k (pV x) (pV y)).run P w = .ok (decide (x = y)) w := by
  obtain ⟨h1, j, h2, h3⟩ := hk.h
  obtain ⟨c, t, hx⟩ := hx
  obtain ⟨c', t', hy⟩ := hy
  unfold pV
  by_cases hxy : x = y
  · subst hxy
    have h := run_eql_ptr_same (P := P) w (tp := k) ⟨x, 0, none⟩ h1 h2
    simp only [binOp, Sem.run_bind] at h
    cases hr : (Op.equal k (.pointer (some ⟨x, 0, none⟩)) (.pointer (some ⟨x, 0, none⟩))).run P w with
    | ok v w' => rw [hr] at h; simp at h; simp [h]
    | _ => rw [hr] at h; simp at h
  · have h := run_eql_ptr_other (P := P) w (tp := k) (a := ⟨x, 0, none⟩) (b := ⟨y, 0, none⟩) h1 h2 h3 (by intro h; cases h; exact hxy rfl) hx hy
    simp only [binOp, Sem.run_bind] at h
    cases hr : (Op.equal k (.pointer (some ⟨x, 0, none⟩)) (.pointer (some ⟨y, 0, none⟩))).run P w with
    | ok v w' => rw [hr] at h; simp at h; simp [h, hxy]
    | _ => rw [hr] at h; simp at h

theorem findAsking_ptr [hk : PtrT P k e] (w : World) (x : Nat) (hx : Celled w x) : ∀ (l : List Nat) (es : List MapEntry) (i : Nat), (∀ p ∈ l, Celled w p) → es.map (fun e => (e.key, e.val)) = l.map (fun p => (pV p, Value.bool true)) →
    (x ∈ l → ∃ j, (Instr.findAsking k (pV x) es i).run P w = .ok (some (j, .bool true)) w) ∧ (¬ x ∈ l → (Instr.findAsking k (pV x) es i).run P w = .ok none w)
  | [], [], i, _, _ => by simp [Instr.findAsking]
  | [], _ :: _, _, _, h => by simp at h
  | _ :: _, [], _, _, h => by simp at h
  | p :: l, en :: es, i, hc, h => by
    simp only [List.map_cons, List.cons.injEq, Prod.mk.injEq] at h
    obtain ⟨⟨hkey, hval⟩, h2⟩ := h
    have ih := findAsking_ptr w x hx l es (i + 1) (fun q hq => hc q (by simp [hq])) h2
    have he := equal_ptr (P := P) (k := k) w x p hx (hc p (by simp))
    unfold Instr.findAsking
    rw [hkey]
    simp only [Sem.run_bind, he, Result.andThen]
    by_cases hxp : x = p
    · subst hxp
      simp [hval]
    · simp only [hxp, decide_false, Bool.false_eq_true, if_false, List.mem_cons, false_or]
      exact ih

theorem findKey_ptr [hk : PtrT P k e] (w : World) (x : Nat) (hx : Celled w x) (l : List Nat) (es : List MapEntry) (hc : ∀ p ∈ l, Celled w p) (h : es.map (fun e => (e.key, e.val)) = l.map (fun p => (pV p, Value.bool true))) :
    (x ∈ l → ∃ j, (Instr.findKey k (pV x) es).run P w = .ok (some (j, .bool true)) w) ∧ (¬ x ∈ l → (Instr.findKey k (pV x) es).run P w = .ok none w) := by
  have h0 := findAsking_ptr (P := P) (k := k) w x hx l es 0 hc h
  unfold Instr.findKey
  simp only [Sem.run_bind, run_underlying hk.h.1, Result.andThen]
  cases es with
  | nil =>
    have : l = [] := by simpa using h.symm
    subst this
    simp [Instr.findNow]
  | cons en es =>
    cases l with
    | nil => simp at h
    | cons p l =>
      simp only [Instr.findNow, Instr.sameNow]
      exact h0

variable {K : Act → World → Prop} {Q : Exit → Act → World → Prop} {a : Act} {w0 w : World} {L : List HP}
variable {dst : Option Tmp} {ty : TypeId} {pos : String} {aft : Array Edge} {gd : Option (Nat × Bool)}

theorem Sat.pm_inv {b : Nat} {l : List Nat} (hs : Sat w0 w (pm b l :: L)) :
    ∃ es clock, Sat w0 w (blk b (.map es clock) :: L) ∧ w.heap[b]? = some (.map es clock) ∧ es.toList.map (fun e => (e.key, e.val)) = l.map (fun p => (pV p, Value.bool true)) := by
  obtain ⟨h1, h2, ⟨es, clock, hb, hr⟩, h3⟩ := hs.heap
  have hh : Sat w0 w (blk b (.map es clock) :: L) := ⟨hs.os, hs.tape, hs.output, h1, h2, hb, h3⟩
  exact ⟨es, clock, hh, hh.get (.here _), hr⟩

/-- 'make(map[*T]bool)'. -/
theorem st_makePm {T : TypeId} (hs : Sat w0 w L) (h : ∀ b w1, Sat w0 w1 (pm b [] :: L) → K (a.put dst (.map (some b))) w1) : Oper.wp P ⟨dst, .makeMap T none, ty, pos, aft, gd⟩ a w K Q := by
  refine st_do rfl (v := .map (some w.heap.size)) (w' := w.alloc (.map #[] 0)) ?_ (h _ _ ((hs.alloc _).to_head fun _ hb => ⟨#[], 0, hb, rfl⟩))
  simp [execOp, Instr.makeMap]

theorem yl_lookupPm {T el : TypeId} {m x : Operand} {b p sz by_ : Nat} {l : List Nat} {L' : List HP} {v : Value} [hT : MapT P T k el] [hk : PtrT P k e] [hi : Inf P el (.bool false) sz by_] (hs : Sat w0 w L) (hm : a.eval m = .map (some b)) (hx : a.eval x = .pointer (some ⟨p, 0, none⟩))
    (ho : Out (pm b l) L L') (hc : ∀ q ∈ p :: l, Celled w q) (hv : v = .bool (decide (p ∈ l))) :
    (execOp a.eval ⟨dst, .lookup T m x false, ty, pos, aft, gd⟩).run P w = .ok (.value v) w := by
  subst hv
  obtain ⟨es, clock, _, hb, h1⟩ := (hs.out ho).pm_inv
  obtain ⟨i, g1, g2, g3, g4, g5⟩ := hi.h
  have hz : (zeroValue el).run P w = .ok (.bool false) w := by simp [zeroValue, typeInfo, g1, g2]
  have hck : (Instr.checkKey es.isEmpty 10000 k (.pointer (some ⟨p, 0, none⟩))).run P w = .ok () w := by
    rw [show (10000 : Nat) = 9999 + 1 from rfl]
    unfold Instr.checkKey
    simp [run_underlying hk.h.1]
  have hf := findKey_ptr (P := P) (k := k) w p (hc p (by simp)) l es.toList (fun q hq => hc q (by simp [hq])) h1
  unfold pV at hf
  by_cases hp : p ∈ l
  · obtain ⟨j, hj⟩ := hf.1 hp
    simp [execOp, Instr.lookup, hm, hx, run_underlying hT.h, MapKept.run_getObj_map hb, hck, hj, Result.andThen, hp]
  · have hj := hf.2 hp
    simp [execOp, Instr.lookup, hm, hx, run_underlying hT.h, MapKept.run_getObj_map hb, hck, hj, hz, Result.andThen, hp]

/-- 'm[p] = true' of a pointer that is not there. -/
theorem st_updatePm {T el : TypeId} {m x y : Operand} {b p : Nat} {l : List Nat} {L' : List HP} [hT : MapT P T k el] [hk : PtrT P k e] (hs : Sat w0 w L) (hm : a.eval m = .map (some b)) (hx : a.eval x = .pointer (some ⟨p, 0, none⟩)) (hy : a.eval y = .bool true)
    (ho : Out (pm b l) L L') (hc : ∀ q ∈ p :: l, Celled w q) (hp : ¬ p ∈ l) (h : ∀ w1, Sat w0 w1 (pm b (l ++ [p]) :: L') → K (a.put dst undef) w1) :
    Oper.wp P ⟨dst, .mapUpdate T m x y, ty, pos, aft, gd⟩ a w K Q := by
  obtain ⟨es, clock, hS, hb, h1⟩ := (hs.out ho).pm_inv
  have hck : (Instr.checkKey false 10000 k (.pointer (some ⟨p, 0, none⟩))).run P w = .ok () w := by
    rw [show (10000 : Nat) = 9999 + 1 from rfl]
    unfold Instr.checkKey
    simp [run_underlying hk.h.1]
  have hj := (findKey_ptr (P := P) (k := k) w p (hc p (by simp)) l es.toList (fun q hq => hc q (by simp [hq])) h1).2 hp
  unfold pV at hj
  refine st_do_skip rfl (w' := ChangeMaps.setBlock w b (.map (es.push ⟨pV p, .bool true, clock⟩) (clock + 1))) ?_ (h _ (hS.setBlk.to_head fun _ hb => ⟨_, _, hb, ?_⟩))
  · simp [execOp, Instr.mapUpdate, hm, hx, hy, run_underlying hT.h, MapKept.run_getObj_map hb, hck, hj, MapKept.run_setObj_map _ hb, Result.andThen, ChangeMaps.setBlock, pV]
  · rw [Array.toList_push, List.map_append, h1, List.map_append]; rfl
end

theorem Sat.celled {w0 w : World} {L L' : List HP} {p : Nat} {c : Array Value} {t : TypeId} (hs : Sat w0 w L) (ho : Out (blk p (.cells c t (0, 0))) L L') : Celled w p := ⟨c, t, hs.get ho⟩
/-! ### A constant string's bytes -/
/-- A slice that may be read alone. -/
def txt (g n : Nat) (xs : List Value) : HP := fun h => ∃ cur E fr, h g = some (.cells cur E fr) ∧ xs.length = n ∧ cur.toList.take n = xs

theorem Rd.txt {w0 : World} {L : List HP} {g n : Nat} {xs : List Value} : Rd w0 (txt g n xs :: L) (some ⟨g, 0, none⟩) n 1 xs := by
  intro w hs
  obtain ⟨h1, h2, ⟨cur, E, fr, hg, hl, hx⟩, h3, h4, h5, h6⟩ := hs.heap
  have hh : Sat w0 w (Sl.blk g (.cells cur E fr) :: L) := ⟨hs.os, hs.tape, hs.output, h1, h2, hg, h3, h4, h5, h6⟩
  have hn : n ≤ cur.size := by
    have := congrArg List.length hx
    simp only [List.length_take, Array.length_toList, hl] at this
    omega
  have := (Rd.blk (w0 := w0) (L := L) (b := g) (cur := cur) (E := E) (fr := fr) (off := 0) (n := n) (sz := 1) (by omega)) w hh
  simpa [hx] using this

section
variable {P : Program} {K : Act → World → Prop} {Q : Exit → Act → World → Prop} {a : Act} {w0 w : World} {L : List HP}
variable {dst : Option Tmp} {ty : TypeId} {pos : String} {aft : Array Edge} {gd : Option (Nat × Bool)}
/-- '[]byte("..")' of a constant: a slice turned to its own type is marked behind its end. -/
theorem st_convB {S E : TypeId} {x : Operand} {A : Option Addr} {n c : Nat} {xs : List Value} {L' : List HP} [hS : SlT P S E] [hE : U8T P E] (hs : Sat w0 w L) (hx : a.eval x = .slice A n c) (ho : Out (own E 1 A c n xs) L L') (hn : 0 < n)
    (h : ∀ g w1, A = some ⟨g, 0, none⟩ → Sat w0 w1 (txt g n xs :: L') → K (a.put dst (.slice (some ⟨g, 0, none⟩) n c)) w1) : Oper.wp P ⟨dst, .convert S S x, ty, pos, aft, gd⟩ a w K Q := by
  obtain ⟨hl, h0⟩ := (hs.out ho).own_inv
  rcases h0 with ⟨_, h0, _⟩ | ⟨g, cur, rfl, hs1, h3, h4, h5, h6⟩
  · omega
  · have hg := hs1.get (.here _)
    have hlt : g < w.heap.size := (Array.getElem?_eq_some_iff.1 hg).1
    have hsh : w.shape? g = some (E, cur.size) := by unfold World.shape?; rw [hg]
    have hf : (w.freeze ⟨g, cur.size, none⟩ 1).heap[g]? = some (.cells cur E (cur.size, cur.size + 1)) := by
      simp [World.freeze, Array.getElem?_modify, hg]
    have hk : ∀ k, k ≠ g → k < w.heap.size → (w.freeze ⟨g, cur.size, none⟩ 1).heap[k]? = w.heap[k]? := fun k hk _ => by
      simp [World.freeze, Array.getElem?_modify, Ne.symm hk]
    have hs2 : Sat w0 (w.freeze ⟨g, cur.size, none⟩ 1) (blk g (.cells cur E (cur.size, cur.size + 1)) :: L') := hs1.put hf hk rfl rfl rfl
    refine st_do rfl (v := .slice (some ⟨g, 0, none⟩) n c) (w' := w.freeze ⟨g, cur.size, none⟩ 1) ?_ (h g _ rfl (hs2.to_head fun _ hb => ⟨cur, E, _, hb, by simpa using hl, by simpa using h6⟩))
    simp [execOp, hx, convert, run_underlying hS.h, run_underlying hE.h, markStringish, hsh, Result.andThen]
end

#print axioms st_convB
#print axioms idx_bad0
#print axioms st_updatePm
#print axioms Sat.cloned
end Sl
