/-
  However often puts are tried: keys of two numbers; what tries make (plain).
-/
import Derived.Test.YtdlimjcidblneaaMc8
import Derived.Test.YtdlimjcidblneaaEntL
import Derived.DeepKeys4
namespace Go.Proofs.Ytdlimjcidblneaa
open Go Go.RowKit Sl Go.Shelf
set_option maxHeartbeats 20000000
set_option maxRecDepth 8000

theorem laidO : laidOutB Try.prog = true := by kernel_rfl
theorem row2 : (42 : TypeId) < Try.prog.types.size := of_decide_eq_true (by kernel_rfl)
theorem wide2 : (match Try.prog.underlying 42 with | some (.array _ _) | some (.struct _) => true | _ => false) = true := by rw [Try.underlying42]
theorem law2 : WideMaps.KeyLaw Try.prog 42 := deep_law_laid laidO (m := 2) (by omega) row2 (by kernel_rfl) wide2

def pairK (x : Int × Int) : Value := .agg #[.int .i64 x.1, .int .i64 x.2]
def okK (x : Int × Int) : Prop := In64 x.1 ∧ In64 x.2

theorem key2 (x : Int × Int) (h : okK x) : keyOf Try.prog 42 (pairK x) = some (.string (keyBytes [.int .i64 x.1, .int .i64 x.2])) := by
  have hc : Try.prog.cellsOf 42 = 2 := by kernel_rfl
  have hc1 : Try.prog.cellsOf 3 = 1 := by kernel_rfl
  have hk : Try.prog.keyType 42 = true := by kernel_rfl
  have hf : (pairK x).formed Try.prog 42 = true := by simp [pairK, Value.formed, Try.underlying42, hc]
  obtain ⟨m, hm⟩ : ∃ m, Try.prog.types.size = m + 1 := ⟨Try.prog.types.size - 1, (Nat.succ_pred_eq_of_pos (Nat.lt_of_le_of_lt (Nat.zero_le _) row2)).symm⟩
  have w1 : (Lit.int .i64 x.1).wf = true := WalkArith.wf_i64 (by have := h.1; unfold In64 at this; omega)
  have w2 : (Lit.int .i64 x.2).wf = true := WalkArith.wf_i64 (by have := h.2; unfold In64 at this; omega)
  have hl : ∀ (n : Int), (Lit.int .i64 n).wf = true → Try.prog.keyLits (m + 1) 3 [.int .i64 n] = some [.int .i64 n] := fun n hn => by
    unfold Program.keyLits; rw [Try.underlying3]; simp [hn]
  unfold keyOf
  rw [Try.underlying42]
  simp only [hk, hf, Bool.and_self, if_true]
  rw [hm]
  unfold Program.keyLits
  rw [Try.underlying42]
  simp only [pairK, Value.cells, hc, hc1, List.length_cons, List.length_nil]
  rw [show List.range 2 = [0, 1] from rfl]
  simp [List.mapM_cons, hl, w1, w2, keyBytes]

theorem ktPair : KT Try.prog 42 pairK okK where
  law := Maps.Keyed.of_law law2
  key x hx := ⟨_, key2 x hx⟩
  inj x y h := by
    unfold pairK at h
    simp only [Value.agg.injEq, Array.mk.injEq, List.cons.injEq, Value.int.injEq, true_and, and_true] at h
    exact Prod.ext h.1 h.2

instance : MapT Try.prog 35 42 3 := ⟨Try.underlying35⟩
section
variable {κ : Type} [DecidableEq κ]
theorem mget_put {l : List (κ × Value)} {x y : κ} {v : Value} : mget (mput l x v) y = if y = x then some v else mget l y := by
  unfold mput
  split
  · rename_i h
    obtain ⟨p, hp, hpx⟩ := List.any_eq_true.1 h
    simp only [decide_eq_true_eq] at hpx
    have e : ∀ z : κ, (l.map fun p => if p.1 = x then (x, v) else p).find? (fun p => decide (p.1 = z)) = (l.find? fun p => decide (p.1 = z)).map (fun p => if p.1 = x then (x, v) else p) := fun z => by
      rw [List.find?_map]
      congr 1
      congr 1
      funext q
      simp only [Function.comp]
      split
      · rename_i e; rw [e]
      · rfl
    unfold mget
    rw [e]
    split
    · rename_i e2
      subst e2
      cases hf : l.find? (fun p => decide (p.1 = y)) with
      | none => have := List.find?_eq_none.1 hf p hp; simp [hpx] at this
      | some q =>
        have := List.find?_some hf
        simp only [decide_eq_true_eq] at this
        simp [this]
    · rename_i e2
      cases hf : l.find? (fun p => decide (p.1 = y)) with
      | none => rfl
      | some q =>
        have := List.find?_some hf
        simp only [decide_eq_true_eq] at this
        simp [this, e2]
  · rename_i h
    have hno : ∀ p ∈ l, p.1 ≠ x := fun p hp e => h (List.any_eq_true.2 ⟨p, hp, by simpa using e⟩)
    unfold mget
    rw [List.find?_append]
    split
    · rename_i e2
      subst e2
      rw [List.find?_eq_none.2 (by intro p hp; simpa using hno p hp)]
      simp
    · rename_i e2
      cases hf : l.find? (fun p => decide (p.1 = y)) with
      | none => simp [Ne.symm e2]
      | some q => simp

theorem mput_len {l : List (κ × Value)} {x : κ} {v : Value} : (mput l x v).length = if (mget l x).isSome then l.length else l.length + 1 := by
  unfold mput
  split
  · rename_i h
    obtain ⟨p, hp, hpx⟩ := List.any_eq_true.1 h
    rw [if_pos]
    · simp
    · unfold mget
      cases hf : l.find? (fun p => decide (p.1 = x)) with
      | none => have := List.find?_eq_none.1 hf p hp; simp at hpx; simp [hpx] at this
      | some q => rfl
  · rename_i h
    have hno : ∀ p ∈ l, p.1 ≠ x := fun p hp e => h (List.any_eq_true.2 ⟨p, hp, by simpa using e⟩)
    rw [mget_none hno]
    simp
end

/-- What so many tries have made. -/
structure Onc (i : Nat) (M : Mc) (m : List ((Int × Int) × Value)) (S : Int → Se) : Prop where
  sp : M.sp = 1048576
  ap : M.ap = 3 + i
  st : M.st = 0
  ss : M.ss = [(1, S 1), (2, S 2), (3, S 3)]
  t : ∀ s, 0 < (S s).t
  q : ∀ s, 0 ≤ (S s).q ∧ (S s).q ≤ 9
  le : ∀ s q v, mget m (s, q) = some v → q ≤ (S s).q
  at_ : ∀ s, 1 ≤ (S s).q → mget m (s, (S s).q) = some (.int .i64 (S s).n)
  len : m.length = M.l.length
  cap : M.l.length ≤ i

theorem Onc.ok {i : Nat} {M : Mc} {m : List ((Int × Int) × Value)} {S : Int → Se} (h : Onc i M m S) (hi : i ≤ 200) : M.Ok := by
  refine ⟨by rw [h.sp]; omega, by rw [h.ap]; omega, by rw [h.st]; omega, by rw [h.st, h.ap]; have := h.cap; omega, fun x hx => ?_⟩
  rw [h.ss] at hx
  rw [h.ap]
  simp only [List.mem_cons, List.not_mem_nil, or_false] at hx
  rcases hx with rfl | rfl | rfl <;> simp only <;> omega

def upS (S : Int → Se) (s : Int) (x : Se) : Int → Se := fun z => if z = s then x else S z

theorem once_apply {i : Nat} {M : Mc} {m : List ((Int × Int) × Value)} {S : Int → Se} (h : Onc i M m S) (hi : i ≤ 200) {s q : Int} (hs : 1 ≤ s ∧ s ≤ 3) (hq : 1 ≤ q ∧ q ≤ 9) (c : UInt8) :
    M.apply (4 + i) (cPut s q [c]) = (⟨(Mc.put { M with ap := 4 + i } s q [c]).1.1, 0, (Mc.put { M with ap := 4 + i } s q [c]).1.2, 0⟩, (Mc.put { M with ap := 4 + i } s q [c]).2) := by
  unfold Mc.apply
  rw [if_neg (by rw [h.ap]; omega), if_neg (by omega), cmd_put (by simp [okNum]; omega) (by simp [okNum]; omega) (by simp)]
  have e : M.expire (4 + i) = { M with ap := 4 + i } := by
    unfold Mc.expire
    congr 1
    refine List.filter_eq_self.2 fun x hx => ?_
    rw [h.ss] at hx
    have h1 := h.t 1
    have h2 := h.t 2
    have h3 := h.t 3
    rw [h.sp]
    simp only [List.mem_cons, List.not_mem_nil, or_false] at hx
    rcases hx with rfl | rfl | rfl <;> simp only [decide_eq_true_eq] <;> omega
  rw [e]
  unfold Mc.does
  rw [if_neg (by simp), if_pos rfl]

theorem Onc.seAt {i : Nat} {M : Mc} {m : List ((Int × Int) × Value)} {S : Int → Se} (h : Onc i M m S) {s : Int} (hs : 1 ≤ s ∧ s ≤ 3) (ap : Int) : Mc.seAt { M with ap := ap } s = some (S s) := by
  unfold Mc.seAt
  simp only [h.ss]
  have : s = 1 ∨ s = 2 ∨ s = 3 := by omega
  rcases this with rfl | rfl | rfl <;> simp

theorem Onc.set {i : Nat} {M : Mc} {m : List ((Int × Int) × Value)} {S : Int → Se} (h : Onc i M m S) {s : Int} (hs : 1 ≤ s ∧ s ≤ 3) (ap : Int) (x : Se) : (Mc.setSe { M with ap := ap } s x).ss = [(1, upS S s x 1), (2, upS S s x 2), (3, upS S s x 3)] := by
  unfold Mc.setSe upS
  simp only [h.ss]
  have : s = 1 ∨ s = 2 ∨ s = 3 := by omega
  rcases this with rfl | rfl | rfl <;> simp

/-- An elder number: refused. -/
theorem once_old {i : Nat} {M : Mc} {m : List ((Int × Int) × Value)} {S : Int → Se} (h : Onc i M m S) (hi : i ≤ 200) {s q : Int} (hs : 1 ≤ s ∧ s ≤ 3) (hq : 1 ≤ q ∧ q ≤ 9) (c : UInt8) (hlt : q < (S s).q) :
    ∃ M', M.apply (4 + i) (cPut s q [c]) = (⟨41, 0, 0, 0⟩, M') ∧ M'.l.length = M.l.length ∧ Onc (i + 1) M' m (upS S s ⟨(S s).q, (S s).n, 4 + i⟩) := by
  refine ⟨Mc.setSe { M with ap := 4 + i } s ⟨(S s).q, (S s).n, 4 + i⟩, ?_, rfl, ?_⟩
  · rw [once_apply h hi hs hq]
    unfold Mc.put
    rw [h.seAt hs]
    simp only [if_pos hlt]
  · refine ⟨h.sp, by simp only [Mc.setSe]; omega, h.st, h.set hs _ _, fun z => ?_, fun z => ?_, fun z y v hv => ?_, fun z hz => ?_, h.len, by have := h.cap; simp only [Mc.setSe]; omega⟩
    · unfold upS; split
      · simp only; omega
      · exact h.t z
    · unfold upS; split
      · exact h.q s
      · exact h.q z
    · have := h.le z y v hv
      unfold upS; split
      · rename_i e; subst e; exact this
      · exact this
    · unfold upS at hz ⊢; split
      · rename_i e; subst e; rw [if_pos rfl] at hz; exact h.at_ z hz
      · rename_i e; rw [if_neg e] at hz; exact h.at_ z hz

/-- The last number again. -/
theorem once_same {i : Nat} {M : Mc} {m : List ((Int × Int) × Value)} {S : Int → Se} (h : Onc i M m S) (hi : i ≤ 200) {s q : Int} (hs : 1 ≤ s ∧ s ≤ 3) (hq : 1 ≤ q ∧ q ≤ 9) (c : UInt8) (he : q = (S s).q) :
    ∃ M', M.apply (4 + i) (cPut s q [c]) = (⟨0, 0, (S s).n, 0⟩, M') ∧ M'.l.length = M.l.length ∧ mget m (s, q) = some (.int .i64 (S s).n) ∧ Onc (i + 1) M' (mput m (s, q) (.int .i64 (S s).n)) (upS S s ⟨(S s).q, (S s).n, 4 + i⟩) := by
  have hm : mget m (s, q) = some (.int .i64 (S s).n) := by rw [he]; exact h.at_ s (by omega)
  refine ⟨Mc.setSe { M with ap := 4 + i } s ⟨(S s).q, (S s).n, 4 + i⟩, ?_, rfl, hm, ?_⟩
  · rw [once_apply h hi hs hq]
    unfold Mc.put
    rw [h.seAt hs]
    simp only [if_neg (show ¬ q < (S s).q by omega), if_neg (show ¬ (S s).q < q by omega)]
  · refine ⟨h.sp, by simp only [Mc.setSe]; omega, h.st, h.set hs _ _, fun z => ?_, fun z => ?_, fun z y v hv => ?_, fun z hz => ?_, by rw [mput_len, hm]; exact h.len, by have := h.cap; simp only [Mc.setSe]; omega⟩
    · unfold upS; split
      · simp only; omega
      · exact h.t z
    · unfold upS; split
      · exact h.q s
      · exact h.q z
    · rw [mget_put] at hv
      unfold upS; split
      · rename_i e; subst e
        split at hv
        · rename_i e2; simp only [Prod.mk.injEq, true_and] at e2; simp only; omega
        · exact h.le _ _ _ hv
      · rename_i e
        rw [if_neg (by simp [e])] at hv
        exact h.le _ _ _ hv
    · rw [mget_put]
      unfold upS at hz ⊢; split
      · rename_i e; subst e; simp [he]
      · rename_i e; rw [if_neg e] at hz; rw [if_neg (by simp [e])]; exact h.at_ z hz

/-- A new number: a record. -/
theorem once_new {i : Nat} {M : Mc} {m : List ((Int × Int) × Value)} {S : Int → Se} (h : Onc i M m S) (hi : i ≤ 200) {s q : Int} (hs : 1 ≤ s ∧ s ≤ 3) (hq : 1 ≤ q ∧ q ≤ 9) (c : UInt8) (hlt : (S s).q < q) :
    ∃ M', M.apply (4 + i) (cPut s q [c]) = (⟨0, 0, M.l.length, 0⟩, M') ∧ M'.l.length = M.l.length + 1 ∧ mget m (s, q) = none ∧ Onc (i + 1) M' (mput m (s, q) (.int .i64 M.l.length)) (upS S s ⟨q, M.l.length, 4 + i⟩) := by
  have hm : mget m (s, q) = none := by
    cases hv : mget m (s, q) with
    | none => rfl
    | some v => have := h.le s q v hv; omega
  refine ⟨{ Mc.setSe { M with ap := 4 + i } s ⟨q, M.l.length, 4 + i⟩ with l := M.l ++ [[c]] }, ?_, by simp, hm, ?_⟩
  · rw [once_apply h hi hs hq]
    unfold Mc.put
    rw [h.seAt hs]
    simp only [if_neg (show ¬ q < (S s).q by omega), if_pos hlt, h.st, Int.zero_add]
  · refine ⟨h.sp, by simp only [Mc.setSe]; omega, h.st, h.set hs _ _, fun z => ?_, fun z => ?_, fun z y v hv => ?_, fun z hz => ?_, by rw [mput_len, hm]; simp [h.len], by have := h.cap; simp; omega⟩
    · unfold upS; split
      · simp only; omega
      · exact h.t z
    · unfold upS; split
      · simp only; omega
      · exact h.q z
    · rw [mget_put] at hv
      unfold upS; split
      · rename_i e; subst e
        split at hv
        · rename_i e2; simp only [Prod.mk.injEq, true_and] at e2; simp only; omega
        · have := h.le _ _ _ hv; simp only; omega
      · rename_i e
        rw [if_neg (by simp [e])] at hv
        exact h.le _ _ _ hv
    · rw [mget_put]
      unfold upS at hz ⊢; split
      · rename_i e; subst e; simp
      · rename_i e; rw [if_neg e] at hz; rw [if_neg (by simp [e])]; exact h.at_ z hz
end Go.Proofs.Ytdlimjcidblneaa
