/-
  The law on sure files, plain.
-/
import Derived.Test.YtiofgdgmlnhekaaVd22
namespace Sl
open Go Go.RowKit

/-- A list of numbers all of whose files are synced whole is left alone. -/
theorem crashFs_same : ∀ (l ms : List Nat) (ch : List Int) (fs : List (List UInt8 × Nat)), (∀ f ∈ l, ¬ f ∈ ms → ∀ x, fs[f]? = some x → x.2 = x.1.length) → crashFs l ms ch fs = fs
  | [], _, _, _, _ => by unfold crashFs; rfl
  | f :: r, ms, ch, fs, h => by
    unfold crashFs
    split
    · exact crashFs_same r ms ch fs (fun g hg => h g (by simp [hg]))
    · rename_i hm
      have hr : ∀ g ∈ r, ¬ g ∈ ms ++ [f] → ∀ x, fs[g]? = some x → x.2 = x.1.length := fun g hg hn => h g (by simp [hg]) (fun e => hn (by simp [e]))
      split
      · exact crashFs_same r _ ch fs hr
      · rename_i b s hb
        have h1 := h f (by simp) hm _ hb
        simp only at h1
        subst h1
        rw [Nat.sub_self, pickN_zero, Nat.add_zero, List.take_length]
        have e : fs.set f (b, b.length) = fs := by
          apply List.ext_getElem?
          intro i
          rw [List.getElem?_set]
          split
          · rename_i e; subst e; rw [hb]; simp [(List.getElem?_eq_some_iff.1 hb).1]
          · rfl
        rw [e]
        exact crashFs_same r _ _ fs hr

/-- Behind a crash all the files of the directory are synced whole. -/
theorem crashFs_whole : ∀ (l ms : List Nat) (ch : List Int) (fs : List (List UInt8 × Nat)), (∀ f ∈ ms, ∀ x, fs[f]? = some x → x.2 = x.1.length) → (∀ x ∈ fs, x.2 ≤ x.1.length) → ∀ f, (f ∈ l ∨ f ∈ ms) → ∀ x, (crashFs l ms ch fs)[f]? = some x → x.2 = x.1.length
  | [], ms, _, fs, h, _ => by
    unfold crashFs
    intro f hf
    rcases hf with hf | hf
    · cases hf
    · exact h f hf
  | g :: r, ms, ch, fs, h, hfs => by
    unfold crashFs
    split
    · rename_i hm
      intro f hf
      refine crashFs_whole r ms ch fs h hfs f ?_
      rcases hf with hf | hf
      · rcases List.mem_cons.1 hf with rfl | hf
        · exact .inr hm
        · exact .inl hf
      · exact .inr hf
    · split
      · rename_i hn
        intro f hf
        refine crashFs_whole r (ms ++ [g]) ch fs (fun f' hf' x hx => ?_) hfs f ?_
        · rcases List.mem_append.1 hf' with h1 | h1
          · exact h f' h1 x hx
          · simp only [List.mem_singleton] at h1; subst h1; rw [hn] at hx; cases hx
        · rcases hf with hf | hf
          · rcases List.mem_cons.1 hf with rfl | hf
            · exact .inr (by simp)
            · exact .inl hf
          · exact .inr (by simp [hf])
      · rename_i b s hb
        have hle := hfs _ (List.mem_of_getElem? hb)
        simp only at hle
        have hk := pickN_le' ch (b.length - s)
        have hlen : (b.take (s + pickN ch (b.length - s))).length = s + pickN ch (b.length - s) := by rw [List.length_take]; omega
        intro f hf
        refine crashFs_whole r (ms ++ [g]) ch.tail (fs.set g (b.take (s + pickN ch (b.length - s)), s + pickN ch (b.length - s))) (fun f' hf' x hx => ?_) (fun x hx => ?_) f ?_
        · rw [List.getElem?_set] at hx
          split at hx
          · rename_i e
            split at hx
            · cases hx; exact hlen.symm
            · cases hx
          · rename_i e
            rcases List.mem_append.1 hf' with h1 | h1
            · exact h f' h1 x hx
            · simp only [List.mem_singleton] at h1; exact absurd h1.symm e
        · rcases List.mem_or_eq_of_mem_set hx with hx | rfl
          · exact hfs x hx
          · simp only [hlen]; omega
        · rcases hf with hf | hf
          · rcases List.mem_cons.1 hf with rfl | hf
            · exact .inr (by simp)
            · exact .inl hf
          · exact .inr (by simp [hf])

theorem crash_twice {D : VD} (hok : D.Ok) (ch ch' : List Int) : (D.crash ch).crash ch' = D.crash ch := by
  obtain ⟨d, hd⟩ : ∃ d, applyAll D.sure (D.ch.take (pickN ch D.ch.length)) = d := ⟨_, rfl⟩
  obtain ⟨fl, hfl⟩ : ∃ fl, (nmSort (d.map (·.1))).filterMap (dget d) = fl := ⟨_, rfl⟩
  have e1 : D.crash ch = { D with fs := crashFs fl [] ch.tail D.fs, now := d, sure := d, ch := [], fuse := -1, off := false } := by
    unfold VD.crash
    simp only [hd, hfl]
  have hw := crashFs_whole fl [] ch.tail D.fs (by simp) (fun x hx => (hok.fs x hx).1)
  rw [e1]
  unfold VD.crash
  simp only [List.length_nil, pickN_zero, List.take_nil, applyAll, List.foldl_nil]
  rw [hfl, crashFs_same fl [] ch'.tail _ (fun f hf _ x hx => hw f (.inl hf) x hx)]

/-- A file's first bytes that are synced stay. -/
theorem crashFs_first {i : Nat} {b : List UInt8} : ∀ (l ms : List Nat) (ch : List Int) (fs : List (List UInt8 × Nat)), (∃ x, fs[i]? = some x ∧ b.length ≤ x.2 ∧ x.2 ≤ x.1.length ∧ x.1.take b.length = b) → ∃ x, (crashFs l ms ch fs)[i]? = some x ∧ b.length ≤ x.2 ∧ x.2 ≤ x.1.length ∧ x.1.take b.length = b
  | [], _, _, fs, h => by unfold crashFs; exact h
  | f :: r, ms, ch, fs, h => by
    unfold crashFs
    split
    · exact crashFs_first r ms ch fs h
    · split
      · exact crashFs_first r _ ch fs h
      · rename_i b' s' hb
        refine crashFs_first r _ _ _ ?_
        obtain ⟨x, h1, h2, h3, h4⟩ := h
        by_cases e : f = i
        · subst e
          rw [h1] at hb
          cases hb
          have hk := pickN_le' ch (b'.length - s')
          simp only at h2 h3 h4
          refine ⟨(b'.take (s' + pickN ch (b'.length - s')), s' + pickN ch (b'.length - s')), ?_, ?_, ?_, ?_⟩
          · rw [List.getElem?_set_self (List.getElem?_eq_some_iff.1 h1).1]
          · simp only; omega
          · simp only [List.length_take]; omega
          · simp only
            rw [List.take_take, Nat.min_eq_left (by omega)]
            exact h4
        · exact ⟨x, by rw [List.getElem?_set, if_neg e]; exact h1, h2, h3, h4⟩

/-! ### The file 'sure' -/
abbrev nS : Nm := [115, 117, 114, 101]
theorem nS_ok : nmOk nS = true := by decide
def su1 : VD := ⟨1048576, [([], 0)], [(nS, 0)], [], [.cr nS 0], -1, false⟩
def su2 (e : List UInt8) : VD := ⟨1048576, [(e, 0)], [(nS, 0)], [], [.cr nS 0], -1, false⟩
def su3 (e : List UInt8) : VD := ⟨1048576, [(e, e.length)], [(nS, 0)], [], [.cr nS 0], -1, false⟩
def su4 (e : List UInt8) : VD := ⟨1048576, [(e, e.length)], [(nS, 0)], [(nS, 0)], [], -1, false⟩
theorem sue1 : (VD.new 1048576).create nS = (0, su1) := by rfl
theorem sue2 {s : List UInt8} (h : s.length ≤ 1000) : su1.append nS s = (0, su2 s) := by
  unfold VD.append
  rw [with_ok (f := 0) nS_ok rfl (by show ¬ (s.length : Int) > 1048576 - ((0 : Nat) : Int); omega) rfl]
  rfl
theorem sue3 {s : List UInt8} (h : s.length ≤ 1000) : (su2 s).sync nS = (0, su3 s) := by
  unfold VD.sync
  rw [with_ok (f := 0) nS_ok rfl (by show ¬ (0 : Int) > 1048576 - ((s.length + 0 : Nat) : Int); omega) rfl]
  rfl
theorem sue4 {s : List UInt8} : (su3 s).syncDir = (0, su4 s) := rfl

/-- A change that leaves the name alone. -/
def Chg.away : Chg → Prop
  | .cr n _ => n ≠ nS
  | .re a b _ => a ≠ nS ∧ b ≠ nS
  | .rm n => n ≠ nS
theorem away_get {c : Chg} {d : Dr} (h : c.away) : dget (c.on d) nS = dget d nS := by
  cases c with
  | cr n f => show dget (dput d n f) nS = _; rw [dget_dput, if_neg (fun e => h e.symm)]
  | re a b f => show dget (dput (ddel d a) b f) nS = _; rw [dget_dput, if_neg (fun e => h.2 e.symm), dget_ddel, if_neg (fun e => h.1 e.symm)]
  | rm n => show dget (ddel d n) nS = _; rw [dget_ddel, if_neg (fun e => h e.symm)]
theorem away_all : ∀ {l : List Chg} {d : Dr}, (∀ c ∈ l, c.away) → dget (applyAll d l) nS = dget d nS
  | [], _, _ => rfl
  | c :: l, d, h => by
    show dget (applyAll (c.on d) l) nS = _
    rw [away_all (fun c' hc => h c' (by simp [hc])), away_get (h c (by simp))]

/-- What stays so, whatever is done to other files. -/
structure SuOk (b : List UInt8) (D : VD) : Prop where
  sure : dget D.sure nS = some 0
  away : ∀ c ∈ D.ch, c.away
  file : ∃ x, D.fs[0]? = some x ∧ b.length ≤ x.2 ∧ x.2 ≤ x.1.length ∧ x.1.take b.length = b

theorem SuOk.now {b : List UInt8} {D : VD} (h : SuOk b D) (hok : D.Ok) : dget D.now nS = some 0 := by rw [hok.now, away_all h.away]; exact h.sure
theorem su4_ok {b : List UInt8} : SuOk b (su4 b) := ⟨rfl, by simp [su4], ⟨(b, b.length), rfl, Nat.le_refl _, Nat.le_refl _, List.take_length⟩⟩

theorem SuOk.use {b : List UInt8} {D : VD} (h : SuOk b D) : SuOk b D.use := by
  obtain ⟨e1, e2, e3, e4, e5⟩ := useF D
  exact ⟨by rw [e4]; exact h.sure, by rw [e5]; exact h.away, by rw [e2]; exact h.file⟩
theorem SuOk.change {b : List UInt8} {D : VD} (h : SuOk b D) {c : Chg} (hc : c.away) : SuOk b (D.change c).2 := by
  obtain ⟨e1, e2, e3, e4, e5⟩ := useF D
  unfold VD.change
  split
  · refine ⟨by show dget D.use.sure nS = _; rw [e4]; exact h.sure, fun c' hc' => ?_, by show ∃ x, D.use.fs[0]? = some x ∧ _; rw [e2]; exact h.file⟩
    rcases List.mem_append.1 hc' with h1 | h1
    · exact h.away c' h1
    · simp only [List.mem_singleton] at h1; exact h1 ▸ hc
  · exact h.use
theorem SuOk.create {b : List UInt8} {D : VD} (h : SuOk b D) (hok : D.Ok) (n : Nm) : SuOk b (D.create n).2 := by
  obtain ⟨e1, e2, e3, e4, e5⟩ := useF D
  unfold VD.create
  split
  · exact h
  split
  · exact h
  rename_i hn
  split
  · exact h
  split
  · have hne : n ≠ nS := fun e => hn (by rw [e, h.now hok]; rfl)
    obtain ⟨x, hx, hr⟩ := h.file
    refine ⟨by show dget D.use.sure nS = _; rw [e4]; exact h.sure, fun c' hc' => ?_, ⟨x, ?_, hr⟩⟩
    · rcases List.mem_append.1 hc' with h1 | h1
      · exact h.away c' h1
      · simp only [List.mem_singleton] at h1; rw [h1]; exact hne
    · show (D.fs ++ [(([] : List UInt8), 0)])[0]? = some x
      rw [List.getElem?_append_left (List.getElem?_eq_some_iff.1 hx).1]; exact hx
  · exact h.use
theorem SuOk.with {b : List UInt8} {D : VD} (h : SuOk b D) {n : Nm} {r : Int} {g : List UInt8 × Nat → List UInt8 × Nat} (hg : ∀ x, b.length ≤ x.2 → x.2 ≤ x.1.length → x.1.take b.length = b → b.length ≤ (g x).2 ∧ (g x).2 ≤ (g x).1.length ∧ (g x).1.take b.length = b) : SuOk b (D.with n r g).2 := by
  obtain ⟨e1, e2, e3, e4, e5⟩ := useF D
  unfold VD.with
  split
  · exact h
  split
  · exact h
  split
  · exact h
  split
  · rename_i f _ _ _
    obtain ⟨x, hx, h1, h2, h3⟩ := h.file
    refine ⟨by show dget D.use.sure nS = _; rw [e4]; exact h.sure, by show ∀ c ∈ D.use.ch, _; rw [e5]; exact h.away, ?_⟩
    show ∃ y, (D.fs.modify f g)[0]? = some y ∧ _
    rw [List.getElem?_modify, hx]
    by_cases hf : f = 0
    · subst hf
      exact ⟨g x, rfl, hg x h1 h2 h3⟩
    · exact ⟨x, by show Option.map _ (some x) = _; simp [hf], h1, h2, h3⟩
  · exact h.use
theorem SuOk.append {b : List UInt8} {D : VD} (h : SuOk b D) (n : Nm) (l : List UInt8) : SuOk b (D.append n l).2 := h.with fun x h1 h2 h3 => by
  refine ⟨h1, by simp only [List.length_append]; omega, ?_⟩
  simp only
  rw [List.take_append_of_le_length (by omega)]; exact h3
theorem SuOk.sync {b : List UInt8} {D : VD} (h : SuOk b D) (n : Nm) : SuOk b (D.sync n).2 := h.with fun x h1 h2 h3 => ⟨by simp only; omega, Nat.le_refl _, h3⟩
theorem SuOk.syncDir {b : List UInt8} {D : VD} (h : SuOk b D) (hok : D.Ok) : SuOk b D.syncDir.2 := by
  obtain ⟨e1, e2, e3, e4, e5⟩ := useF D
  unfold VD.syncDir
  split
  · exact ⟨h.now hok, by simp, by show ∃ x, D.use.fs[0]? = some x ∧ _; rw [e2]; exact h.file⟩
  · exact h.use
theorem SuOk.rename {b : List UInt8} {D : VD} (h : SuOk b D) {x y : Nm} (hx : x ≠ nS) (hy : y ≠ nS) : SuOk b (D.rename x y).2 := by
  unfold VD.rename
  split
  · exact h
  split
  · exact h
  · exact h.change ⟨hx, hy⟩
theorem SuOk.remove {b : List UInt8} {D : VD} (h : SuOk b D) {x : Nm} (hx : x ≠ nS) : SuOk b (D.remove x).2 := by
  unfold VD.remove
  split
  · exact h
  split
  · exact h
  · exact h.change (c := .rm x) hx

/-- What is read behind the crash. -/
theorem SuOk.read {b : List UInt8} {D : VD} (h : SuOk b D) (ch : List Int) : ∃ x, (D.crash ch).read nS = (x, 0) ∧ b.length ≤ x.length ∧ x.take b.length = b := by
  have hd : dget (D.crash ch).now nS = some 0 := by
    show dget (applyAll D.sure (D.ch.take (pickN ch D.ch.length))) nS = _
    rw [away_all (fun c hc => h.away c ((List.take_sublist _ _).subset hc))]; exact h.sure
  obtain ⟨x, h1, h2, h3, h4⟩ := crashFs_first ((nmSort ((applyAll D.sure (D.ch.take (pickN ch D.ch.length))).map (·.1))).filterMap (dget (applyAll D.sure (D.ch.take (pickN ch D.ch.length))))) [] ch.tail D.fs h.file
  refine ⟨x.1, ?_, by omega, h4⟩
  unfold VD.read
  rw [if_neg (by rw [nS_ok]; simp), hd]
  simp only
  have e3 : (D.crash ch).fs = crashFs ((nmSort ((applyAll D.sure (D.ch.take (pickN ch D.ch.length))).map (·.1))).filterMap (dget (applyAll D.sure (D.ch.take (pickN ch D.ch.length))))) [] ch.tail D.fs := rfl
  rw [e3, h1]; rfl
end Sl
