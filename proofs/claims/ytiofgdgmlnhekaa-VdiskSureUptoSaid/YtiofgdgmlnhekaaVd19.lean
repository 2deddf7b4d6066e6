/-
  The law on one file's tail, plain.
-/
import Derived.Test.YtiofgdgmlnhekaaVd16
namespace Sl
open Go Go.RowKit

abbrev nF : Nm := [102]
def tl1 : VD := ⟨1048576, [([], 0)], [(nF, 0)], [], [.cr nF 0], -1, false⟩
def tl2 (s : List UInt8) : VD := ⟨1048576, [(s, 0)], [(nF, 0)], [], [.cr nF 0], -1, false⟩
def tl3 (s : List UInt8) : VD := ⟨1048576, [(s, s.length)], [(nF, 0)], [], [.cr nF 0], -1, false⟩
def tl4 (s : List UInt8) : VD := ⟨1048576, [(s, s.length)], [(nF, 0)], [(nF, 0)], [], -1, false⟩
def tl5 (s t : List UInt8) : VD := ⟨1048576, [(s ++ t, s.length)], [(nF, 0)], [], [.cr nF 0], -1, false⟩
def tl6 (s t : List UInt8) : VD := ⟨1048576, [(s ++ t, s.length)], [(nF, 0)], [(nF, 0)], [], -1, false⟩
/-- The file has come back, with K bytes of its tail. -/
def tl7 (s t : List UInt8) (K : Nat) : VD := ⟨1048576, [(s ++ t.take K, s.length + K)], [(nF, 0)], [(nF, 0)], [], -1, false⟩
/-- It has not. -/
def tl8 (s t : List UInt8) : VD := ⟨1048576, [(s ++ t, s.length)], [], [], [], -1, false⟩

theorem nF_ok : nmOk nF = true := by decide

theorem tle1 : (VD.new 1048576).create nF = (0, tl1) := by rfl
theorem with_ok {D : VD} {n : Nm} {f : Nat} {room : Int} {g : List UInt8 × Nat → List UInt8 × Nat} (h1 : nmOk n = true) (h2 : dget D.now n = some f) (h3 : ¬ room > D.q - D.used) (h4 : D.useB = true) : D.with n room g = (0, { D.use with fs := D.fs.modify f g }) := by
  unfold VD.with
  rw [if_neg (by rw [h1]; simp), h2]
  simp only
  rw [if_neg h3, if_pos h4]

theorem tle2 {s : List UInt8} (h : s.length ≤ 300) : tl1.append nF s = (0, tl2 s) := by
  unfold VD.append
  rw [with_ok (f := 0) nF_ok rfl (by show ¬ (s.length : Int) > 1048576 - ((0 : Nat) : Int); omega) rfl]
  rfl
theorem tle3 {s : List UInt8} (h : s.length ≤ 300) : (tl2 s).sync nF = (0, tl3 s) := by
  unfold VD.sync
  rw [with_ok (f := 0) nF_ok rfl (by show ¬ (0 : Int) > 1048576 - ((s.length + 0 : Nat) : Int); omega) rfl]
  rfl
theorem tle4 {s : List UInt8} : (tl3 s).syncDir = (0, tl4 s) := rfl
theorem tle5 {s t : List UInt8} (h : s.length ≤ 300) (h2 : t.length ≤ 300) : (tl3 s).append nF t = (0, tl5 s t) := by
  unfold VD.append
  rw [with_ok (f := 0) nF_ok rfl (by show ¬ (t.length : Int) > 1048576 - ((s.length + 0 : Nat) : Int); omega) rfl]
  rfl
theorem tle6 {s t : List UInt8} (h : s.length ≤ 300) (h2 : t.length ≤ 300) : (tl4 s).append nF t = (0, tl6 s t) := by
  unfold VD.append
  rw [with_ok (f := 0) nF_ok rfl (by show ¬ (t.length : Int) > 1048576 - ((s.length + 0 : Nat) : Int); omega) rfl]
  rfl

theorem pickN_zero (ch : List Int) : pickN ch 0 = 0 := by have := pickN_le' ch 0; omega

theorem take_app {s t : List UInt8} {K : Nat} : (s ++ t).take (s.length + K) = s ++ t.take K := by
  rw [List.take_append, List.take_of_length_le (by omega)]
  congr 2
  omega

theorem tle7 {s t : List UInt8} {k c : Int} : (tl6 s t).crash [k, c] = tl7 s t (pickN [c] t.length) := by
  unfold VD.crash tl6 tl7
  simp only [List.length_nil, pickN_zero, List.take_nil, applyAll, List.foldl_nil, List.map_cons, List.map_nil, nmSort, List.foldr_cons, List.foldr_nil, nmIns, List.tail_cons]
  have e : dget [(nF, 0)] nF = some 0 := rfl
  simp only [List.filterMap_cons, e, List.filterMap_nil]
  simp [crashFs, take_app]

theorem odd_pick {k c : Int} (h : ¬ k.tmod 2 = 0) : pickN [k, c] 1 = 1 := by
  unfold pickN
  simp only
  have h1 := Int.lt_tmod_of_pos k (b := 2) (by omega)
  have h2 := Int.tmod_lt_of_pos k (b := 2) (by omega)
  have e : ((1 : Nat) : Int) + 1 = 2 := by omega
  rw [e]
  have h3 : k.tmod 2 = 1 ∨ k.tmod 2 = -1 := by omega
  rcases h3 with h3 | h3 <;> rw [h3] <;> rfl
theorem even_pick {k c : Int} (h : k.tmod 2 = 0) : pickN [k, c] 1 = 0 := by
  unfold pickN
  simp only
  have e : ((1 : Nat) : Int) + 1 = 2 := by omega
  rw [e, h]; rfl

theorem tle8 {s t : List UInt8} {k c : Int} (h : ¬ k.tmod 2 = 0) : (tl5 s t).crash [k, c] = tl7 s t (pickN [c] t.length) := by
  unfold VD.crash tl5 tl7
  simp only [List.length_cons, List.length_nil, Nat.zero_add, odd_pick h, List.tail_cons]
  have e0 : applyAll [] (([Chg.cr nF 0] : List Chg).take 1) = [(nF, 0)] := rfl
  rw [e0]
  have e : dget [(nF, 0)] nF = some 0 := rfl
  simp only [List.map_cons, List.map_nil, nmSort, List.foldr_cons, List.foldr_nil, nmIns, List.filterMap_cons, e, List.filterMap_nil]
  simp [crashFs, take_app]

theorem tle9 {s t : List UInt8} {k c : Int} (h : k.tmod 2 = 0) : (tl5 s t).crash [k, c] = tl8 s t := by
  unfold VD.crash tl5 tl8
  simp only [List.length_cons, List.length_nil, Nat.zero_add, even_pick h, List.tail_cons, List.take_zero]
  rfl

theorem tlr7 {s t : List UInt8} {K : Nat} : (tl7 s t K).read nF = (s ++ t.take K, 0) := rfl
theorem tlr8 {s t : List UInt8} : (tl8 s t).read nF = ([], 3) := rfl
theorem tll8 {s t : List UInt8} : (tl8 s t).list = [] := rfl
end Sl
