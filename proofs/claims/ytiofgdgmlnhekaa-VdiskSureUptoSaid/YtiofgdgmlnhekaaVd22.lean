/-
  The laws on swapped and on sure files, plain.
-/
import Derived.Test.YtiofgdgmlnhekaaVd19
namespace Sl
open Go Go.RowKit

theorem ba_toList (l : List UInt8) : (⟨l.toArray⟩ : ByteArray).toList = l := by
  unfold ByteArray.toList
  have h : ∀ (n i : Nat) (r : List UInt8), l.length - i = n → i ≤ l.length → ByteArray.toList.loop ⟨l.toArray⟩ i r = r.reverse ++ l.drop i := by
    intro n
    induction n with
    | zero =>
      intro i r h1 h2
      unfold ByteArray.toList.loop
      have : ¬ i < (⟨l.toArray⟩ : ByteArray).size := by simp [ByteArray.size]; omega
      rw [if_neg this, List.drop_eq_nil_of_le (by omega), List.append_nil]
    | succ n ih =>
      intro i r h1 h2
      unfold ByteArray.toList.loop
      have h3 : i < l.length := by omega
      have : i < (⟨l.toArray⟩ : ByteArray).size := by simp [ByteArray.size]; omega
      rw [if_pos this, ih (i + 1) _ (by omega) (by omega), List.drop_eq_getElem_cons h3]
      have e : (⟨l.toArray⟩ : ByteArray).get! i = l[i] := by simp [ByteArray.get!, h3]
      rw [e]; simp
  have := h l.length 0 [] (by omega) (by omega)
  simpa using this
theorem str_ne {x y : List UInt8} (h : ¬ x = y) : ¬ (⟨x.toArray⟩ : ByteArray).toList = (⟨y.toArray⟩ : ByteArray).toList := by rw [ba_toList, ba_toList]; exact h

/-- A file that is synced whole stays as it is. -/
theorem crashFs_keep {i : Nat} {b : List UInt8} : ∀ (l ms : List Nat) (ch : List Int) (fs : List (List UInt8 × Nat)), fs[i]? = some (b, b.length) → (crashFs l ms ch fs)[i]? = some (b, b.length)
  | [], _, _, fs, h => by unfold crashFs; exact h
  | f :: r, ms, ch, fs, h => by
    unfold crashFs
    split
    · exact crashFs_keep r ms ch fs h
    · split
      · exact crashFs_keep r _ ch fs h
      · rename_i b' s' hb
        refine crashFs_keep r _ _ _ ?_
        rw [List.getElem?_set]
        by_cases e : f = i
        · subst e
          rw [h] at hb
          cases hb
          rw [Nat.sub_self, pickN_zero]
          simp [(List.getElem?_eq_some_iff.1 h).1]
        · rw [if_neg e]; exact h

/-- What a crash leaves of such a file. -/
theorem crash_read {D : VD} {ch : List Int} {n : Nm} {i : Nat} {b : List UInt8} (hn : nmOk n = true) (hd : dget (applyAll D.sure (D.ch.take (pickN ch D.ch.length))) n = some i) (hf : D.fs[i]? = some (b, b.length)) : (D.crash ch).read n = (b, 0) := by
  unfold VD.read
  rw [if_neg (by rw [hn]; simp)]
  have e1 : (D.crash ch).now = applyAll D.sure (D.ch.take (pickN ch D.ch.length)) := rfl
  rw [e1, hd]
  simp only
  have e2 := crashFs_keep ((nmSort ((applyAll D.sure (D.ch.take (pickN ch D.ch.length))).map (·.1))).filterMap (dget (applyAll D.sure (D.ch.take (pickN ch D.ch.length))))) [] ch.tail D.fs hf
  have e3 : (D.crash ch).fs = crashFs ((nmSort ((applyAll D.sure (D.ch.take (pickN ch D.ch.length))).map (·.1))).filterMap (dget (applyAll D.sure (D.ch.take (pickN ch D.ch.length))))) [] ch.tail D.fs := rfl
  rw [e3, e2]
  rfl

theorem useB_pos {D : VD} (h1 : D.off = false) (h2 : ¬ D.fuse = 0) : D.useB = true := by
  unfold VD.useB
  rw [h1]
  simp [h2]

/-! ### A file beside, renamed over another one -/
abbrev nA : Nm := [97]
abbrev nT : Nm := [116]
theorem nA_ok : nmOk nA = true := by decide
theorem nT_ok : nmOk nT = true := by decide
def sw1 : VD := ⟨1048576, [([], 0)], [(nA, 0)], [], [.cr nA 0], -1, false⟩
def sw2 (e : List UInt8) : VD := ⟨1048576, [(e, 0)], [(nA, 0)], [], [.cr nA 0], -1, false⟩
def sw3 (e : List UInt8) : VD := ⟨1048576, [(e, e.length)], [(nA, 0)], [], [.cr nA 0], -1, false⟩
/-- The elder one is sure; the fuse. -/
def sw4 (e : List UInt8) (f : Int) : VD := ⟨1048576, [(e, e.length)], [(nA, 0)], [(nA, 0)], [], f, false⟩
theorem swe1 : (VD.new 1048576).create nA = (0, sw1) := by rfl
theorem swe2 {s : List UInt8} (h : s.length ≤ 300) : sw1.append nA s = (0, sw2 s) := by
  unfold VD.append
  rw [with_ok (f := 0) nA_ok rfl (by show ¬ (s.length : Int) > 1048576 - ((0 : Nat) : Int); omega) rfl]
  rfl
theorem swe3 {s : List UInt8} (h : s.length ≤ 300) : (sw2 s).sync nA = (0, sw3 s) := by
  unfold VD.sync
  rw [with_ok (f := 0) nA_ok rfl (by show ¬ (0 : Int) > 1048576 - ((s.length + 0 : Nat) : Int); omega) rfl]
  rfl
theorem swe4 {s : List UInt8} : (sw3 s).syncDir = (0, sw4 s (-1)) := rfl
theorem swe5 {s : List UInt8} {f : Int} (h : 0 ≤ f) : (sw4 s (-1)).cut f = sw4 s f := by
  unfold VD.cut sw4
  rw [show max f (-1) = f by omega]

/-- The calls behind. -/
structure Sw where
  c1 : Int
  c2 : Int
  c3 : Int
  c4 : Int
  c5 : Int
  D : VD
def swap (D0 : VD) (b : List UInt8) : Sw :=
  let r1 := D0.create nT
  let r2 := r1.2.append nT b
  let r3 := r2.2.sync nT
  let r4 := r3.2.rename nT nA
  let r5 := r4.2.syncDir
  ⟨r1.1, r2.1, r3.1, r4.1, r5.1, r5.2⟩

theorem with_no {D : VD} {n : Nm} {room : Int} {g : List UInt8 × Nat → List UInt8 × Nat} (h1 : nmOk n = true) (h2 : dget D.now n = none) : D.with n room g = (3, D) := by
  unfold VD.with
  rw [if_neg (by rw [h1]; simp), h2]
theorem with_off {D : VD} {n : Nm} {f : Nat} {room : Int} {g : List UInt8 × Nat → List UInt8 × Nat} (h1 : nmOk n = true) (h2 : dget D.now n = some f) (h3 : ¬ room > D.q - D.used) (h4 : D.useB = false) : D.with n room g = (9, D.use) := by
  unfold VD.with
  rw [if_neg (by rw [h1]; simp), h2]
  simp only
  rw [if_neg h3, if_neg (by rw [h4]; simp)]

def swB (e b : List UInt8) (s : Nat) (f : Int) (off : Bool) : VD := ⟨1048576, [(e, e.length), (b, s)], [(nA, 0), (nT, 1)], [(nA, 0)], [.cr nT 1], f, off⟩
theorem swap0 {e b : List UInt8} : swap (sw4 e 0) b = ⟨9, 3, 3, 3, 9, { sw4 e 0 with off := true }⟩ := rfl
theorem cr1 {e : List UInt8} {f : Int} (h : 0 < f) : (sw4 e f).create nT = (0, swB e [] 0 (f - 1) false) := by
  have hu : (sw4 e f).useB = true := useB_pos rfl (by show ¬ f = 0; omega)
  unfold VD.create
  rw [if_neg (by rw [nT_ok]; simp), if_neg (by show ¬ (dget [(nA, 0)] nT).isSome = true; decide), if_neg (by show ¬ 512 ≤ 1; omega), if_pos hu]
  unfold VD.use
  rw [if_pos hu]
  unfold swB sw4
  simp only
  rw [show max (f - 1) (-1) = f - 1 by omega]
  rfl
theorem ap1 {e b : List UInt8} {f : Int} (he : e.length ≤ 300) (hb : b.length ≤ 300) (h : 0 < f) : (swB e [] 0 f false).append nT b = (0, swB e b 0 (f - 1) false) := by
  have hu : (swB e [] 0 f false).useB = true := useB_pos rfl (by show ¬ f = 0; omega)
  unfold VD.append
  rw [with_ok (f := 1) nT_ok rfl (by show ¬ (b.length : Int) > 1048576 - ((e.length + (0 + 0) : Nat) : Int); omega) hu]
  unfold VD.use
  rw [if_pos hu]
  unfold swB
  simp only
  rw [show max (f - 1) (-1) = f - 1 by omega]
  rfl
theorem sy1 {e b : List UInt8} {f : Int} (he : e.length ≤ 300) (hb : b.length ≤ 300) (h : 0 < f) : (swB e b 0 f false).sync nT = (0, swB e b b.length (f - 1) false) := by
  have hu : (swB e b 0 f false).useB = true := useB_pos rfl (by show ¬ f = 0; omega)
  unfold VD.sync
  rw [with_ok (f := 1) nT_ok rfl (by show ¬ (0 : Int) > 1048576 - ((e.length + (b.length + 0) : Nat) : Int); omega) hu]
  unfold VD.use
  rw [if_pos hu]
  unfold swB
  simp only
  rw [show max (f - 1) (-1) = f - 1 by omega]
  rfl
/-- Renamed. -/
def swR (e b : List UInt8) (f : Int) : VD := ⟨1048576, [(e, e.length), (b, b.length)], [(nA, 1)], [(nA, 0)], [.cr nT 1, .re nT nA 1], f, false⟩
theorem rn1 {e b : List UInt8} {f : Int} (h : 0 < f) : (swB e b b.length f false).rename nT nA = (0, swR e b (f - 1)) := by
  have hu : (swB e b b.length f false).useB = true := useB_pos rfl (by show ¬ f = 0; omega)
  unfold VD.rename
  rw [if_neg (by rw [nA_ok, nT_ok]; simp), show dget (swB e b b.length f false).now nT = some 1 from rfl]
  simp only
  unfold VD.change
  rw [if_pos hu]
  unfold VD.use
  rw [if_pos hu]
  unfold swB swR
  simp only
  rw [show max (f - 1) (-1) = f - 1 by omega]
  rfl
def swS (e b : List UInt8) (f : Int) : VD := ⟨1048576, [(e, e.length), (b, b.length)], [(nA, 1)], [(nA, 1)], [], f, false⟩
theorem sd1 {e b : List UInt8} {f : Int} (h : 0 < f) : (swR e b f).syncDir = (0, swS e b (f - 1)) := by
  have hu : (swR e b f).useB = true := useB_pos rfl (by show ¬ f = 0; omega)
  unfold VD.syncDir
  rw [if_pos hu]
  unfold VD.use
  rw [if_pos hu]
  unfold swR swS
  simp only
  rw [show max (f - 1) (-1) = f - 1 by omega]

theorem offW {e b : List UInt8} {s : Nat} {off : Bool} {room : Int} {g : List UInt8 × Nat → List UInt8 × Nat} (he : e.length ≤ 300) (hb : b.length ≤ 300) (hr : room ≤ 300) : (swB e b s 0 off).with nT room g = (9, swB e b s 0 true) := by
  have hu : (swB e b s 0 off).useB = false := by simp [VD.useB, swB]
  rw [with_off (f := 1) nT_ok rfl (by show ¬ room > 1048576 - ((e.length + (b.length + 0) : Nat) : Int); omega) hu]
  unfold VD.use
  rw [if_neg (by rw [hu]; simp)]
  rfl
theorem offR {e b : List UInt8} {s : Nat} {off : Bool} : (swB e b s 0 off).rename nT nA = (9, swB e b s 0 true) := by
  have hu : (swB e b s 0 off).useB = false := by simp [VD.useB, swB]
  unfold VD.rename
  rw [if_neg (by rw [nA_ok, nT_ok]; simp), show dget (swB e b s 0 off).now nT = some 1 from rfl]
  simp only
  unfold VD.change
  rw [if_neg (by rw [hu]; simp)]
  unfold VD.use
  rw [if_neg (by rw [hu]; simp)]
  rfl
theorem offD {e b : List UInt8} {s : Nat} {off : Bool} : (swB e b s 0 off).syncDir = (9, swB e b s 0 true) := by
  have hu : (swB e b s 0 off).useB = false := by simp [VD.useB, swB]
  unfold VD.syncDir
  rw [if_neg (by rw [hu]; simp)]
  unfold VD.use
  rw [if_neg (by rw [hu]; simp)]
  rfl

/-- What the law says of it. -/
structure SwOk (e b : List UInt8) (f : Int) (x : Sw) : Prop where
  b1 : 0 ≤ x.c1 ∧ x.c1 ≤ 9
  b2 : 0 ≤ x.c2 ∧ x.c2 ≤ 9
  b3 : 0 ≤ x.c3 ∧ x.c3 ≤ 9
  b4 : 0 ≤ x.c4 ∧ x.c4 ≤ 9
  b5 : 0 ≤ x.c5 ∧ x.c5 ≤ 9
  ch : x.D.ch.length ≤ 2
  sum : x.c1 + x.c2 + x.c3 + x.c4 + x.c5 = 0 ↔ 5 ≤ f
  got : ∀ ch, ∃ y, (x.D.crash ch).read nA = (y, 0) ∧ (y = b ∨ y = e ∧ f < 5)

theorem SwOk.of {e b : List UInt8} {f : Int} (c1 c2 c3 c4 c5 : Int) (D : VD) (h : (0 ≤ c1 ∧ c1 ≤ 9) ∧ (0 ≤ c2 ∧ c2 ≤ 9) ∧ (0 ≤ c3 ∧ c3 ≤ 9) ∧ (0 ≤ c4 ∧ c4 ≤ 9) ∧ 0 ≤ c5 ∧ c5 ≤ 9) (hch : D.ch.length ≤ 2) (hs : c1 + c2 + c3 + c4 + c5 = 0 ↔ 5 ≤ f)
    (hg : ∀ ch, ∃ y, (D.crash ch).read nA = (y, 0) ∧ (y = b ∨ y = e ∧ f < 5)) : SwOk e b f ⟨c1, c2, c3, c4, c5, D⟩ := ⟨h.1, h.2.1, h.2.2.1, h.2.2.2.1, h.2.2.2.2, hch, hs, hg⟩

theorem swap_ok {e b : List UInt8} {f : Int} (he : e.length ≤ 300) (hb : b.length ≤ 300) (h0 : 0 ≤ f) (h7 : f ≤ 7) : SwOk e b f (swap (sw4 e f) b) := by
  have heB : ∀ (s : Nat) (o : Bool) (g : Int) (ch : List Int), ((swB e b s g o).crash ch).read nA = (e, 0) := fun s o g ch => by
    refine crash_read (i := 0) nA_ok ?_ rfl
    have hk := pickN_le' ch 1
    show dget (applyAll [(nA, 0)] (([Chg.cr nT 1] : List Chg).take (pickN ch 1))) nA = some 0
    obtain ⟨k, hk'⟩ : ∃ k, pickN ch 1 = k := ⟨_, rfl⟩
    rw [hk'] at hk ⊢
    rcases (by omega : k = 0 ∨ k = 1) with rfl | rfl <;> rfl
  have heB0 : ∀ (s : Nat) (o : Bool) (g : Int) (ch : List Int), ((swB e [] s g o).crash ch).read nA = (e, 0) := fun s o g ch => by
    refine crash_read (i := 0) nA_ok ?_ rfl
    have hk := pickN_le' ch 1
    show dget (applyAll [(nA, 0)] (([Chg.cr nT 1] : List Chg).take (pickN ch 1))) nA = some 0
    obtain ⟨k, hk'⟩ : ∃ k, pickN ch 1 = k := ⟨_, rfl⟩
    rw [hk'] at hk ⊢
    rcases (by omega : k = 0 ∨ k = 1) with rfl | rfl <;> rfl
  have e0 : ([] : List UInt8).length ≤ 300 := by simp
  rcases (by omega : f = 0 ∨ f = 1 ∨ f = 2 ∨ f = 3 ∨ f = 4 ∨ 5 ≤ f) with rfl | rfl | rfl | rfl | rfl | h5
  · rw [swap0]
    exact SwOk.of 9 3 3 3 9 _ (by decide) (Nat.le_of_ble_eq_true rfl) (by decide) (fun ch => ⟨e, crash_read (i := 0) nA_ok (by show dget (applyAll [(nA, 0)] (([] : List Chg).take (pickN ch 0))) nA = some 0; rw [List.take_nil]; rfl) rfl, .inr ⟨rfl, by decide⟩⟩)
  · have : swap (sw4 e 1) b = ⟨0, 9, 9, 9, 9, swB e [] 0 0 true⟩ := by
      unfold swap
      simp only [cr1 (e := e) (f := 1) (by decide), show (1 : Int) - 1 = 0 from rfl, VD.append, VD.sync, offW he e0 (room := (b.length : Int)) (by omega), offW he e0 (room := 0) (by omega), offR, offD]
    rw [this]
    exact SwOk.of 0 9 9 9 9 _ (by decide) (Nat.le_of_ble_eq_true rfl) (by decide) (fun ch => ⟨e, heB0 _ _ _ _, .inr ⟨rfl, by decide⟩⟩)
  · have : swap (sw4 e 2) b = ⟨0, 0, 9, 9, 9, swB e b 0 0 true⟩ := by
      unfold swap
      simp only [cr1 (e := e) (f := 2) (by decide), show (2 : Int) - 1 = 1 from rfl, ap1 he hb (f := 1) (by decide), show (1 : Int) - 1 = 0 from rfl, VD.sync, offW he hb (room := 0) (by omega), offR, offD]
    rw [this]
    exact SwOk.of 0 0 9 9 9 _ (by decide) (Nat.le_of_ble_eq_true rfl) (by decide) (fun ch => ⟨e, heB _ _ _ _, .inr ⟨rfl, by decide⟩⟩)
  · have : swap (sw4 e 3) b = ⟨0, 0, 0, 9, 9, swB e b b.length 0 true⟩ := by
      unfold swap
      simp only [cr1 (e := e) (f := 3) (by decide), show (3 : Int) - 1 = 2 from rfl, ap1 he hb (f := 2) (by decide), show (2 : Int) - 1 = 1 from rfl, sy1 he hb (f := 1) (by decide), show (1 : Int) - 1 = 0 from rfl, offR, offD]
    rw [this]
    exact SwOk.of 0 0 0 9 9 _ (by decide) (Nat.le_of_ble_eq_true rfl) (by decide) (fun ch => ⟨e, heB _ _ _ _, .inr ⟨rfl, by decide⟩⟩)
  · have hR : (swR e b 0).syncDir = (9, { swR e b 0 with off := true }) := rfl
    have : swap (sw4 e 4) b = ⟨0, 0, 0, 0, 9, { swR e b 0 with off := true }⟩ := by
      unfold swap
      simp only [cr1 (e := e) (f := 4) (by decide), show (4 : Int) - 1 = 3 from rfl, ap1 he hb (f := 3) (by decide), show (3 : Int) - 1 = 2 from rfl, sy1 he hb (f := 2) (by decide), show (2 : Int) - 1 = 1 from rfl, rn1 (e := e) (b := b) (f := 1) (by decide), show (1 : Int) - 1 = 0 from rfl, hR]
    rw [this]
    refine SwOk.of 0 0 0 0 9 _ (by decide) (Nat.le_of_ble_eq_true rfl) (by decide) (fun ch => ?_)
    have hk := pickN_le' ch 2
    obtain ⟨k, hk'⟩ : ∃ k, pickN ch 2 = k := ⟨_, rfl⟩
    rw [hk'] at hk
    rcases (by omega : k = 0 ∨ k = 1 ∨ k = 2) with rfl | rfl | rfl
    · exact ⟨e, crash_read (i := 0) nA_ok (by show dget (applyAll [(nA, 0)] (([Chg.cr nT 1, Chg.re nT nA 1] : List Chg).take (pickN ch 2))) nA = some 0; rw [hk']; rfl) rfl, .inr ⟨rfl, by decide⟩⟩
    · exact ⟨e, crash_read (i := 0) nA_ok (by show dget (applyAll [(nA, 0)] (([Chg.cr nT 1, Chg.re nT nA 1] : List Chg).take (pickN ch 2))) nA = some 0; rw [hk']; rfl) rfl, .inr ⟨rfl, by decide⟩⟩
    · exact ⟨b, crash_read (i := 1) nA_ok (by show dget (applyAll [(nA, 0)] (([Chg.cr nT 1, Chg.re nT nA 1] : List Chg).take (pickN ch 2))) nA = some 1; rw [hk']; rfl) rfl, .inl rfl⟩
  · have : swap (sw4 e f) b = ⟨0, 0, 0, 0, 0, swS e b (f - 1 - 1 - 1 - 1 - 1)⟩ := by
      unfold swap
      simp only [cr1 (e := e) (f := f) (by omega), ap1 he hb (f := f - 1) (by omega), sy1 he hb (f := f - 1 - 1) (by omega), rn1 (e := e) (b := b) (f := f - 1 - 1 - 1) (by omega), sd1 (e := e) (b := b) (f := f - 1 - 1 - 1 - 1) (by omega)]
    rw [this]
    refine SwOk.of 0 0 0 0 0 _ (by decide) (Nat.le_of_ble_eq_true rfl) ⟨fun _ => h5, fun _ => rfl⟩ (fun ch => ⟨b, crash_read (i := 1) nA_ok (by show dget (applyAll [(nA, 1)] (([] : List Chg).take (pickN ch 0))) nA = some 1; rw [List.take_nil]; rfl) rfl, .inl rfl⟩)
end Sl
