/-
  A disk, plain: what holds of every disk stays so.
-/
import Derived.Test.YtiofgdgmlnhekaaVd3
namespace Sl
open Go Go.RowKit

theorem dget_dput (d : Dr) (n m : Nm) (f : Nat) : dget (dput d n f) m = if m = n then some f else dget d m := by
  unfold dput
  split
  · rename_i h
    unfold dget
    rw [List.find?_map]
    have e : ∀ l : Dr, (l.find? (fun p => decide ((if p.1 = n then (n, f) else p).1 = m))) = l.find? fun p => decide (p.1 = m) := fun l => by
      congr 1
      funext p
      split
      · rename_i e; rw [e]
      · rfl
    simp only [Function.comp_def]
    rw [e]
    by_cases hm : m = n
    · subst hm
      obtain ⟨p, hp, hpm⟩ := List.any_eq_true.1 h
      simp only [decide_eq_true_eq] at hpm
      cases hf : d.find? (fun p => decide (p.1 = m)) with
      | none => have := List.find?_eq_none.1 hf p hp; simp [hpm] at this
      | some q =>
        have := List.find?_some hf
        simp only [decide_eq_true_eq] at this
        simp [this]
    · rw [if_neg hm]
      cases hf : d.find? (fun p => decide (p.1 = m)) with
      | none => rfl
      | some q =>
        have := List.find?_some hf
        simp only [decide_eq_true_eq] at this
        have hne : q.1 ≠ n := fun e => hm (this ▸ e)
        simp [hne]
  · rename_i h
    unfold dget
    rw [List.find?_append]
    by_cases hm : m = n
    · subst hm
      have hnone : d.find? (fun p => decide (p.1 = m)) = none := List.find?_eq_none.2 fun p hp e => h (List.any_eq_true.2 ⟨p, hp, e⟩)
      rw [hnone]; simp
    · have hne : ¬ n = m := fun e => hm e.symm
      cases hf : d.find? (fun p => decide (p.1 = m)) with
      | none => simp [hm, hne]
      | some q => simp [hm]

theorem dget_ddel (d : Dr) (n m : Nm) : dget (ddel d n) m = if m = n then none else dget d m := by
  unfold dget ddel
  rw [List.find?_filter]
  by_cases hm : m = n
  · subst hm
    rw [if_pos rfl]
    have : d.find? (fun a => decide (decide (a.1 ≠ m) = true ∧ decide (a.1 = m) = true)) = none := List.find?_eq_none.2 fun p _ => by simp
    rw [this]; rfl
  · rw [if_neg hm]
    congr 2
    funext a
    by_cases h : a.1 = m
    · have : a.1 ≠ n := fun e => hm (h ▸ e)
      simp [h, hm]
    · simp [h]

theorem dput_len (d : Dr) (n : Nm) (f : Nat) : (dput d n f).length ≤ d.length + 1 := by
  unfold dput
  split
  · simp
  · simp

theorem ddel_len (d : Dr) (n : Nm) : (ddel d n).length ≤ d.length := List.length_filter_le _ _

theorem ddel_len' {d : Dr} {n : Nm} {f : Nat} (h : dget d n = some f) : (ddel d n).length + 1 ≤ d.length := by
  have hm := dget_mem h
  induction d with
  | nil => cases hm
  | cons p d ih =>
    unfold ddel
    by_cases e : p.1 = n
    · rw [List.filter_cons_of_neg (by simpa using e)]
      have := ddel_len d n
      unfold ddel at this
      simp only [List.length_cons]; omega
    · rw [List.filter_cons_of_pos (by simpa using e)]
      have h2 : dget d n = some f := by
        unfold dget at h ⊢
        rw [List.find?_cons_of_neg (by simpa using e)] at h
        exact h
      have := ih h2 (dget_mem h2)
      unfold ddel at this
      simp only [List.length_cons]; omega

theorem Chg.fit.mono {c : Chg} {N M : Nat} (h : c.fit N) (hm : N ≤ M) : c.fit M := by
  cases c with
  | cr n f => exact ⟨h.1, by have := h.2; omega⟩
  | re a b f => exact ⟨h.1, h.2.1, by have := h.2.2; omega⟩
  | rm n => exact h

theorem useF (D : VD) : D.use.q = D.q ∧ D.use.fs = D.fs ∧ D.use.now = D.now ∧ D.use.sure = D.sure ∧ D.use.ch = D.ch := by
  unfold VD.use; split <;> exact ⟨rfl, rfl, rfl, rfl, rfl⟩

theorem use_fuse {D : VD} (h : D.Ok) : -1 ≤ D.use.fuse ∧ D.use.fuse ≤ 9223372036854775807 := by
  have := h.fuse
  unfold VD.use
  split
  · simp only; omega
  · exact this

theorem VD.Ok.use {D : VD} (h : D.Ok) : D.use.Ok := by
  obtain ⟨e1, e2, e3, e4, e5⟩ := useF D
  have hf := use_fuse h
  exact ⟨by rw [e1]; exact h.q, by rw [e3, e4, e5]; exact h.now, by rw [e4, e2]; exact h.sure, by rw [e5, e2]; exact h.ch, by rw [e2]; exact h.fs, hf, by rw [e4, e5]; exact h.few⟩

theorem few_snoc {d : Dr} {l : List Chg} {c : Chg} (h : ∀ k, (applyAll d (l.take k)).length ≤ 512) (h2 : (c.on (applyAll d l)).length ≤ 512) : ∀ k, (applyAll d ((l ++ [c]).take k)).length ≤ 512 := by
  intro k
  by_cases hk : k ≤ l.length
  · rw [List.take_append_of_le_length hk]; exact h k
  · rw [List.take_of_length_le (by simp; omega), applyAll_snoc]; exact h2

theorem VD.Ok.change {D : VD} (h : D.Ok) {c : Chg} (hc : c.fit D.fs.length) (hl : (c.on D.now).length ≤ 512) : (D.change c).2.Ok := by
  unfold VD.change
  split
  · obtain ⟨e1, e2, e3, e4, e5⟩ := useF D
    have hf := use_fuse h
    refine ⟨by show 1 ≤ D.use.q ∧ _; rw [e1]; exact h.q, by show _ = applyAll D.use.sure _; rw [e4, applyAll_snoc, ← h.now], by show ∀ p ∈ D.use.sure, p.2 < D.use.fs.length; rw [e4, e2]; exact h.sure, ?_, by show ∀ x ∈ D.use.fs, _; rw [e2]; exact h.fs, hf, ?_⟩
    · show ∀ c' ∈ D.ch ++ [c], c'.fit D.use.fs.length
      rw [e2]
      intro c' hc'
      rcases List.mem_append.1 hc' with h1 | h1
      · exact h.ch c' h1
      · simp only [List.mem_singleton] at h1; rw [h1]; exact hc
    · show ∀ k, (applyAll D.use.sure ((D.ch ++ [c]).take k)).length ≤ 512
      rw [e4]
      exact few_snoc h.few (by rw [← h.now]; exact hl)
  · exact h.use

theorem VD.Ok.create {D : VD} (h : D.Ok) (n : Nm) (hn : n.length ≤ 64 ∨ nmOk n = false) : (D.create n).2.Ok := by
  unfold VD.create
  split
  · exact h
  split
  · exact h
  split
  · exact h
  rename_i h1 h2 h3
  have hn64 : n.length ≤ 64 := by rcases hn with hn | hn; · exact hn
                                  · exact absurd hn h1
  split
  · obtain ⟨e1, e2, e3, e4, e5⟩ := useF D
    have hf := use_fuse h
    have hlen : (D.fs ++ [(([] : List UInt8), 0)]).length = D.fs.length + 1 := by simp
    refine ⟨by show 1 ≤ D.use.q ∧ _; rw [e1]; exact h.q, by show _ = applyAll D.use.sure _; rw [e4, applyAll_snoc, ← h.now]; rfl, ?_, ?_, ?_, hf, ?_⟩
    · show ∀ p ∈ D.use.sure, p.2 < (D.fs ++ [(([] : List UInt8), 0)]).length
      rw [e4, hlen]
      intro p hp; have := h.sure p hp; omega
    · show ∀ c' ∈ D.ch ++ [Chg.cr n D.fs.length], c'.fit (D.fs ++ [(([] : List UInt8), 0)]).length
      rw [hlen]
      intro c' hc'
      rcases List.mem_append.1 hc' with h1 | h1
      · exact (h.ch c' h1).mono (by omega)
      · simp only [List.mem_singleton] at h1; rw [h1]; exact ⟨hn64, by omega⟩
    · show ∀ x ∈ D.fs ++ [(([] : List UInt8), 0)], _
      intro x hx
      rcases List.mem_append.1 hx with hx | hx
      · exact h.fs x hx
      · simp only [List.mem_singleton] at hx; subst hx; simp
    · show ∀ k, (applyAll D.use.sure ((D.ch ++ [Chg.cr n D.fs.length]).take k)).length ≤ 512
      rw [e4]
      refine few_snoc h.few ?_
      rw [← h.now]
      have := dput_len D.now n D.fs.length
      show (dput D.now n D.fs.length).length ≤ 512
      omega
  · exact h.use

theorem nmOk_le {n : Nm} : n.length ≤ 64 ∨ nmOk n = false := by
  by_cases h : n.length ≤ 64
  · exact .inl h
  · right; unfold nmOk; simp [h]

theorem mem_le_sumD {x : Nat} : ∀ {l : List Nat}, x ∈ l → x ≤ l.sum
  | [], h => by cases h
  | y :: l, h => by
    simp only [List.sum_cons]
    rcases List.mem_cons.1 h with rfl | h
    · omega
    · have := mem_le_sumD h; omega

theorem VD.len_used {D : VD} {n : Nm} {f : Nat} {x : List UInt8 × Nat} (h : dget D.now n = some f) (hf : D.fs[f]? = some x) : x.1.length ≤ D.used := by
  have hm := dget_mem h
  unfold VD.used
  have h1 : D.len f ∈ D.now.map (fun p => D.len p.2) := List.mem_map.2 ⟨_, hm, rfl⟩
  have h2 := mem_le_sumD h1
  have h3 : D.len f = x.1.length := by unfold VD.len; rw [hf]; rfl
  omega

theorem VD.Ok.with {D : VD} (h : D.Ok) {n : Nm} {room : Int} {g : List UInt8 × Nat → List UInt8 × Nat}
    (hg : ∀ f x, dget D.now n = some f → D.fs[f]? = some x → room ≤ D.q - D.used → (g x).2 ≤ (g x).1.length ∧ (g x).1.length ≤ 1048576) : (D.with n room g).2.Ok := by
  unfold VD.with
  split
  · exact h
  split
  · exact h
  rename_i f hf
  split
  · exact h
  rename_i hr
  split
  · obtain ⟨e1, e2, e3, e4, e5⟩ := useF D
    have hfu := use_fuse h
    have hl : (D.fs.modify f g).length = D.fs.length := by simp
    refine ⟨by show 1 ≤ D.use.q ∧ _; rw [e1]; exact h.q, by show D.use.now = applyAll D.use.sure D.use.ch; rw [e3, e4, e5]; exact h.now, ?_, ?_, ?_, hfu, by show ∀ k, (applyAll D.use.sure (D.use.ch.take k)).length ≤ 512; rw [e4, e5]; exact h.few⟩
    · show ∀ p ∈ D.use.sure, p.2 < (D.fs.modify f g).length
      rw [e4, hl]; exact h.sure
    · show ∀ c ∈ D.use.ch, c.fit (D.fs.modify f g).length
      rw [e5, hl]; exact h.ch
    · show ∀ x ∈ D.fs.modify f g, _
      intro x hx
      obtain ⟨i, hi⟩ := List.mem_iff_getElem?.1 hx
      rw [List.getElem?_modify] at hi
      cases hy : D.fs[i]? with
      | none => rw [hy] at hi; cases hi
      | some y =>
        rw [hy] at hi
        replace hi : (if f = i then g y else y) = x := by injection hi
        by_cases e : f = i
        · subst e
          try rw [if_pos rfl] at hi
          rw [← hi]
          exact hg f y hf hy (by omega)
        · simp only [e, if_false] at hi
          rw [← hi]; exact h.fs y (List.mem_of_getElem? hy)
  · exact h.use

theorem VD.Ok.append {D : VD} (h : D.Ok) (n : Nm) (b : List UInt8) : (D.append n b).2.Ok := h.with fun f x hf hx hr => by
  have h1 := h.fs x (List.mem_of_getElem? hx)
  have h2 := VD.len_used hf hx
  have h3 := h.q
  simp only [List.length_append]
  omega

theorem VD.Ok.sync {D : VD} (h : D.Ok) (n : Nm) : (D.sync n).2.Ok := h.with fun f x hf hx hr => by
  have h1 := h.fs x (List.mem_of_getElem? hx)
  simp only
  omega

theorem VD.Ok.syncDir {D : VD} (h : D.Ok) (hl : ∀ p ∈ D.now, p.2 < D.fs.length) (h512 : D.now.length ≤ 512) : D.syncDir.2.Ok := by
  unfold VD.syncDir
  split
  · obtain ⟨e1, e2, e3, e4, e5⟩ := useF D
    have hfu := use_fuse h
    refine ⟨by show 1 ≤ D.use.q ∧ _; rw [e1]; exact h.q, by show D.use.now = _; rw [e3]; rfl, by show ∀ p ∈ D.now, p.2 < D.use.fs.length; rw [e2]; exact hl, by simp, by show ∀ x ∈ D.use.fs, _; rw [e2]; exact h.fs, hfu, fun k => by simp [applyAll]; exact h512⟩
  · exact h.use

theorem VD.Ok.rename {D : VD} (h : D.Ok) (a b : Nm) : (D.rename a b).2.Ok := by
  unfold VD.rename
  split
  · exact h
  rename_i h1
  have hab : nmOk a = true ∧ nmOk b = true := by simpa using h1
  have ha : a.length ≤ 64 := nmOk_le.resolve_right (by rw [hab.1]; simp)
  have hb : b.length ≤ 64 := nmOk_le.resolve_right (by rw [hab.2]; simp)
  split
  · exact h
  rename_i f hf
  refine h.change ⟨ha, hb, h.nowlt _ (dget_mem hf)⟩ ?_
  show (dput (ddel D.now a) b f).length ≤ 512
  have h2 := dput_len (ddel D.now a) b f
  have h3 := ddel_len' hf
  have h4 := h.nowlen
  omega

theorem VD.Ok.remove {D : VD} (h : D.Ok) (n : Nm) : (D.remove n).2.Ok := by
  unfold VD.remove
  split
  · exact h
  rename_i h1
  have hn : nmOk n = true := by simpa using h1
  have hn' : n.length ≤ 64 := nmOk_le.resolve_right (by rw [hn]; simp)
  split
  · exact h
  · refine h.change (c := .rm n) hn' ?_
    have := ddel_len D.now n
    have h4 := h.nowlen
    show (ddel D.now n).length ≤ 512
    omega

theorem VD.Ok.cut {D : VD} (h : D.Ok) {n : Int} (hn : n ≤ 9223372036854775807) : (D.cut n).Ok := by
  refine ⟨h.q, h.now, h.sure, h.ch, h.fs, ?_, h.few⟩
  show -1 ≤ max n (-1) ∧ max n (-1) ≤ 9223372036854775807
  omega

theorem pickN_le' (ch : List Int) (n : Nat) : pickN ch n ≤ n := by
  unfold pickN
  cases ch with
  | nil => simp
  | cons c r =>
    simp only
    have h2 := Int.tmod_lt_of_pos (c.tmod ((n : Int) + 1) + (n : Int) + 1) (b := (n : Int) + 1) (by omega)
    omega

theorem crashFs_ok : ∀ (l : List Nat) (ms : List Nat) (ch : List Int) (fs : List (List UInt8 × Nat)), (∀ x ∈ fs, x.2 ≤ x.1.length ∧ x.1.length ≤ 1048576) → (crashFs l ms ch fs).length = fs.length ∧ ∀ x ∈ crashFs l ms ch fs, x.2 ≤ x.1.length ∧ x.1.length ≤ 1048576
  | [], _, _, fs, h => by unfold crashFs; exact ⟨rfl, h⟩
  | f :: r, ms, ch, fs, h => by
    unfold crashFs
    split
    · exact crashFs_ok r ms ch fs h
    · split
      · exact crashFs_ok r _ ch fs h
      · rename_i b s hb
        have h1 := h _ (List.mem_of_getElem? hb)
        have h2 := pickN_le' ch (b.length - s)
        simp only at h1
        have h3 := crashFs_ok r (ms ++ [f]) ch.tail (fs.set f (b.take (s + pickN ch (b.length - s)), s + pickN ch (b.length - s))) (fun x hx => by
          rcases List.mem_or_eq_of_mem_set hx with hx | rfl
          · exact h x hx
          · simp only [List.length_take]; omega)
        rw [List.length_set] at h3
        exact h3

theorem VD.Ok.crash {D : VD} (h : D.Ok) (ch : List Int) : (D.crash ch).Ok := by
  unfold VD.crash
  obtain ⟨h1, h2⟩ := crashFs_ok ((nmSort ((applyAll D.sure (D.ch.take (pickN ch D.ch.length))).map (·.1))).filterMap (dget (applyAll D.sure (D.ch.take (pickN ch D.ch.length))))) [] ch.tail D.fs h.fs
  refine ⟨h.q, rfl, ?_, by simp, h2, by simp, fun k => by simp [applyAll]; exact h.few _⟩
  simp only [h1]
  exact applyAll_mem (fun c hc => h.ch c ((List.take_sublist _ _).subset hc)) h.sure
end Sl
