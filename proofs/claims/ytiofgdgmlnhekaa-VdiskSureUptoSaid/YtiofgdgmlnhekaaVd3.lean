/-
  A disk, plain: files, two directories, changes, a fuse. No Go program in it.
-/
import Derived.Test.YtiofgdgmlnhekaaVd1
namespace Sl
open Go Go.RowKit

abbrev Nm := List UInt8
abbrev Dr := List (Nm × Nat)
inductive Chg where
  | cr (n : Nm) (f : Nat)
  | re (a b : Nm) (f : Nat)
  | rm (n : Nm)

def nmOk (l : Nm) : Bool := decide (1 ≤ l.length) && decide (l.length ≤ 64) && !(l.any badB)
def dget (d : Dr) (n : Nm) : Option Nat := (d.find? fun p => p.1 = n).map (·.2)
def dput (d : Dr) (n : Nm) (f : Nat) : Dr := if d.any (fun p => p.1 = n) then d.map (fun p => if p.1 = n then (n, f) else p) else d ++ [(n, f)]
def ddel (d : Dr) (n : Nm) : Dr := d.filter fun p => p.1 ≠ n
def Chg.on : Chg → Dr → Dr
  | .cr n f, d => dput d n f
  | .re a b f, d => dput (ddel d a) b f
  | .rm n, d => ddel d n
def applyAll (d : Dr) (l : List Chg) : Dr := l.foldl (fun d c => c.on d) d

/-- Sorted. -/
def nmIns (x : Nm) : List Nm → List Nm
  | [] => [x]
  | y :: l => if x ≤ y then x :: y :: l else y :: nmIns x l
def nmSort (l : List Nm) : List Nm := l.foldr nmIns []

structure VD where
  q : Int
  fs : List (List UInt8 × Nat)
  now : Dr
  sure : Dr
  ch : List Chg
  fuse : Int
  off : Bool

def VD.new (q : Int) : VD := ⟨q, [], [], [], [], -1, false⟩
def VD.useB (D : VD) : Bool := !(D.off || decide (D.fuse = 0))
def VD.use (D : VD) : VD := if D.useB then { D with fuse := max (D.fuse - 1) (-1) } else { D with off := true }
def VD.change (D : VD) (c : Chg) : Int × VD := if D.useB then (0, { D.use with now := c.on D.now, ch := D.ch ++ [c] }) else (9, D.use)
def VD.len (D : VD) (f : Nat) : Nat := ((D.fs[f]?).map (·.1.length)).getD 0
def VD.used (D : VD) : Nat := (D.now.map fun p => D.len p.2).sum
def VD.create (D : VD) (n : Nm) : Int × VD :=
  if nmOk n = false then (1, D) else if (dget D.now n).isSome then (4, D) else if 512 ≤ D.now.length then (7, D)
  else if D.useB then (0, { D.use with fs := D.fs ++ [([], 0)], now := dput D.now n D.fs.length, ch := D.ch ++ [.cr n D.fs.length] }) else (9, D.use)
/-- What is done with a file that is there. -/
def VD.with (D : VD) (n : Nm) (room : Int) (g : List UInt8 × Nat → List UInt8 × Nat) : Int × VD :=
  if nmOk n = false then (1, D) else match dget D.now n with
  | none => (3, D)
  | some f => if room > D.q - D.used then (7, D) else if D.useB then (0, { D.use with fs := D.fs.modify f g }) else (9, D.use)
def VD.append (D : VD) (n : Nm) (b : List UInt8) : Int × VD := D.with n b.length (fun x => (x.1 ++ b, x.2))
def VD.sync (D : VD) (n : Nm) : Int × VD := D.with n 0 (fun x => (x.1, x.1.length))
def VD.syncDir (D : VD) : Int × VD := if D.useB then (0, { D.use with sure := D.now, ch := [] }) else (9, D.use)
def VD.rename (D : VD) (a b : Nm) : Int × VD :=
  if (nmOk a && nmOk b) = false then (1, D) else match dget D.now a with
  | none => (3, D)
  | some f => D.change (.re a b f)
def VD.remove (D : VD) (n : Nm) : Int × VD :=
  if nmOk n = false then (1, D) else match dget D.now n with
  | none => (3, D)
  | some _ => D.change (.rm n)
def VD.read (D : VD) (n : Nm) : List UInt8 × Int :=
  if nmOk n = false then ([], 1) else match dget D.now n with
  | none => ([], 3)
  | some f => (((D.fs[f]?).map (·.1)).getD [], 0)
def VD.list (D : VD) : List Nm := nmSort (D.now.map (·.1))
def VD.cut (D : VD) (n : Int) : VD := { D with fuse := max n (-1) }

/-- A choice of 0 to n. -/
def pickN (ch : List Int) (n : Nat) : Nat := match ch with
  | [] => 0
  | c :: _ => ((c.tmod (n + 1) + n + 1).tmod (n + 1)).toNat
/-- The files of a directory, one by one. -/
def crashFs : List Nat → List Nat → List Int → List (List UInt8 × Nat) → List (List UInt8 × Nat)
  | [], _, _, fs => fs
  | f :: r, met, ch, fs => if f ∈ met then crashFs r met ch fs else
    match fs[f]? with
    | none => crashFs r (met ++ [f]) ch fs
    | some (b, s) => crashFs r (met ++ [f]) ch.tail (fs.set f (b.take (s + pickN ch (b.length - s)), s + pickN ch (b.length - s)))
def VD.crash (D : VD) (ch : List Int) : VD :=
  let d := applyAll D.sure (D.ch.take (pickN ch D.ch.length))
  { D with fs := crashFs ((nmSort (d.map (·.1))).filterMap (dget d)) [] ch.tail D.fs, now := d, sure := d, ch := [], fuse := -1, off := false }

def Chg.fit (N : Nat) : Chg → Prop
  | .cr n f => n.length ≤ 64 ∧ f < N
  | .re a b f => a.length ≤ 64 ∧ b.length ≤ 64 ∧ f < N
  | .rm n => n.length ≤ 64
/-- What holds of every disk. -/
structure VD.Ok (D : VD) : Prop where
  q : 1 ≤ D.q ∧ D.q ≤ 1048576
  now : D.now = applyAll D.sure D.ch
  sure : ∀ p ∈ D.sure, p.2 < D.fs.length
  ch : ∀ c ∈ D.ch, c.fit D.fs.length
  fs : ∀ x ∈ D.fs, x.2 ≤ x.1.length ∧ x.1.length ≤ 1048576
  fuse : -1 ≤ D.fuse ∧ D.fuse ≤ 9223372036854775807
  few : ∀ k, (applyAll D.sure (D.ch.take k)).length ≤ 512

/-! ### Directories -/
theorem dget_none {d : Dr} {n : Nm} (h : ∀ p ∈ d, p.1 ≠ n) : dget d n = none := by
  unfold dget
  rw [List.find?_eq_none.2 (by intro p hp; simpa using h p hp)]
  rfl

theorem dget_mem {d : Dr} {n : Nm} {f : Nat} (h : dget d n = some f) : (n, f) ∈ d := by
  unfold dget at h
  obtain ⟨p, hp, rfl⟩ := Option.map_eq_some_iff.1 h
  have h1 := List.find?_some hp
  have h2 := List.mem_of_find?_eq_some hp
  simp only [decide_eq_true_eq] at h1
  rw [← h1]; exact h2

theorem dput_mem {d : Dr} {n : Nm} {f : Nat} {p : Nm × Nat} (h : p ∈ dput d n f) : p = (n, f) ∨ p ∈ d := by
  unfold dput at h
  split at h
  · obtain ⟨q, hq, e⟩ := List.mem_map.1 h
    split at e
    · exact .inl e.symm
    · exact .inr (e ▸ hq)
  · rcases List.mem_append.1 h with h | h
    · exact .inr h
    · exact .inl (by simpa using h)

theorem ddel_mem {d : Dr} {n : Nm} {p : Nm × Nat} (h : p ∈ ddel d n) : p ∈ d := (List.mem_filter.1 h).1

theorem on_mem {c : Chg} {d : Dr} {N : Nat} (hc : c.fit N) (h : ∀ p ∈ d, p.2 < N) : ∀ p ∈ c.on d, p.2 < N := by
  intro p hp
  cases c with
  | cr n f =>
    rcases dput_mem hp with rfl | hp
    · exact hc.2
    · exact h p hp
  | re a b f =>
    rcases dput_mem hp with rfl | hp
    · exact hc.2.2
    · exact h p (ddel_mem hp)
  | rm n => exact h p (ddel_mem hp)

theorem applyAll_mem {N : Nat} : ∀ {l : List Chg} {d : Dr}, (∀ c ∈ l, c.fit N) → (∀ p ∈ d, p.2 < N) → ∀ p ∈ applyAll d l, p.2 < N
  | [], _, _, h => h
  | c :: l, d, hl, h => by
    show ∀ p ∈ applyAll (c.on d) l, p.2 < N
    exact applyAll_mem (fun c' hc' => hl c' (by simp [hc'])) (on_mem (hl c (by simp)) h)

theorem applyAll_snoc (d : Dr) (l : List Chg) (c : Chg) : applyAll d (l ++ [c]) = c.on (applyAll d l) := by simp [applyAll]

theorem VD.Ok.nowlt {D : VD} (h : D.Ok) : ∀ p ∈ D.now, p.2 < D.fs.length := by rw [h.now]; exact applyAll_mem h.ch h.sure
theorem VD.Ok.nowlen {D : VD} (h : D.Ok) : D.now.length ≤ 512 := by have := h.few D.ch.length; rw [List.take_length] at this; rw [h.now]; exact this

/-- As values. -/
def dirV (ad : Nat → Nat) (d : Dr) : List (Nm × Value) := d.map fun p => (p.1, pV (ad p.2))

theorem dirV_get (ad : Nat → Nat) (d : Dr) (n : Nm) : mget (dirV ad d) n = (dget d n).map fun f => pV (ad f) := by
  unfold mget dget dirV
  rw [List.find?_map]
  simp only [Option.map_map, Function.comp_def]

theorem dirV_put (ad : Nat → Nat) (d : Dr) (n : Nm) (f : Nat) : mput (dirV ad d) n (pV (ad f)) = dirV ad (dput d n f) := by
  unfold mput dput dirV
  rw [List.any_map]
  simp only [Function.comp_def]
  split
  · rw [List.map_map, List.map_map]
    refine List.map_congr_left fun p _ => ?_
    simp only [Function.comp]
    split <;> simp_all
  · simp

theorem dirV_del (ad : Nat → Nat) (d : Dr) (n : Nm) : mdel (dirV ad d) n = dirV ad (ddel d n) := by
  unfold mdel ddel dirV
  rw [List.filter_map]
  rfl

theorem dirV_congr {ad ad' : Nat → Nat} {d : Dr} {N : Nat} (h : ∀ p ∈ d, p.2 < N) (he : ∀ i, i < N → ad' i = ad i) : dirV ad' d = dirV ad d :=
  List.map_congr_left fun p hp => by rw [he _ (h p hp)]

theorem dirV_keys (ad : Nat → Nat) (d : Dr) : (dirV ad d).map (·.1) = d.map (·.1) := by simp [dirV]

/-! ### Sorting -/
theorem nmIns_perm (x : Nm) : ∀ l, (nmIns x l).Perm (x :: l)
  | [] => .refl _
  | y :: l => by
    unfold nmIns
    split
    · exact .refl _
    · exact (List.Perm.cons _ (nmIns_perm x l)).trans (.swap _ _ _)

theorem nmSort_perm : ∀ l, (nmSort l).Perm l
  | [] => .refl _
  | x :: l => (nmIns_perm x _).trans ((nmSort_perm l).cons _)

theorem nmIns_sorted (x : Nm) : ∀ {l : List Nm}, l.Pairwise (· ≤ ·) → (nmIns x l).Pairwise (· ≤ ·)
  | [], _ => by simp [nmIns]
  | y :: l, h => by
    unfold nmIns
    split
    · rename_i hxy
      refine List.pairwise_cons.2 ⟨fun z hz => ?_, h⟩
      rcases List.mem_cons.1 hz with rfl | hz
      · exact hxy
      · exact List.le_trans hxy ((List.pairwise_cons.1 h).1 z hz)
    · rename_i hxy
      refine List.pairwise_cons.2 ⟨fun z hz => ?_, nmIns_sorted x (List.pairwise_cons.1 h).2⟩
      rcases List.mem_cons.1 ((nmIns_perm x l).mem_iff.1 hz) with rfl | hz
      · exact (List.le_total z y).resolve_left hxy
      · exact (List.pairwise_cons.1 h).1 z hz

theorem nmSort_sorted : ∀ l : List Nm, (nmSort l).Pairwise (· ≤ ·)
  | [] => List.Pairwise.nil
  | x :: l => nmIns_sorted x (nmSort_sorted l)

theorem sort_eq {ss l : List Nm} (h : ss.Perm l) : ss.mergeSort (fun x y => decide (x ≤ y)) = nmSort l := by
  have h1 : (ss.mergeSort (fun x y => decide (x ≤ y))).Pairwise (fun a b => decide (a ≤ b) = true) := List.pairwise_mergeSort (fun a b c hab hbc => by
    simp only [decide_eq_true_eq] at hab hbc ⊢; exact List.le_trans hab hbc) (fun a b => by
    rcases List.le_total a b with h | h <;> simp [h]) ss
  refine List.Perm.eq_of_pairwise (le := fun a b : Nm => a ≤ b) (fun a b _ _ hab hba => List.le_antisymm hab hba) (h1.imp (by simp)) (nmSort_sorted l) (((List.mergeSort_perm ss _).trans h).trans (nmSort_perm l).symm)
end Sl
