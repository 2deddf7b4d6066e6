/-
  The disk in memory: what stands for it.
-/
import Derived.Test.YtiofgdgmlnhekaaVd2
namespace Go.Proofs.Ytiofgdgmlnhekaa
open Go Go.RowKit Sl Go.Shelf Go.Maps
set_option maxHeartbeats 20000000
set_option maxRecDepth 8000

/-- A file in memory. -/
structure FRow where
  ad : Nat
  A : Option Addr
  cap : Nat
  b : List UInt8
  sy : Nat

abbrev fBlk (r : FRow) : HP := blk r.ad (.cells #[.slice r.A r.b.length r.cap, .int .i64 (r.sy : Int)] 60 (0, 0))
abbrev fOwn (r : FRow) : HP := own 5 1 r.A r.cap r.b.length (B8 r.b)
def FRow.hp (r : FRow) : HP := SatH [fBlk r, fOwn r]
def frs (rs : List FRow) : List (List UInt8 × Nat) := rs.map fun r => (r.b, r.sy)
def adr (rs : List FRow) (i : Nat) : Nat := ((rs[i]?).map FRow.ad).getD 0

/-- A change in memory: a closure and what it has caught. -/
inductive CRow where
  | cr (n : Nm) (f fa bf bn : Nat)
  | re (a b : Nm) (f fa ba bf bb : Nat)
  | rm (n : Nm) (bn : Nat)

def CRow.chg : CRow → Chg
  | .cr n f _ _ _ => .cr n f
  | .re a b f _ _ _ _ => .re a b f
  | .rm n _ => .rm n
def CRow.fn : CRow → Nat
  | .cr .. => 26
  | .re .. => 36
  | .rm .. => 37
def CRow.caps : CRow → Array Value
  | .cr _ _ _ bf bn => #[pV bf, pV bn]
  | .re _ _ _ _ ba bf bb => #[pV ba, pV bf, pV bb]
  | .rm _ bn => #[pV bn]
def CRow.val (c : CRow) : Value := .func (.func c.fn) #[] c.caps
abbrev nBox (b : Nat) (n : Nm) : HP := blk b (.cells #[sV n] 9 (0, 0))
abbrev fBox (b f : Nat) : HP := blk b (.cells #[pV f] 58 (0, 0))
def CRow.hp : CRow → HP
  | .cr n _ fa bf bn => SatH [fBox bf fa, nBox bn n]
  | .re a b _ fa ba bf bb => SatH [nBox ba a, fBox bf fa, nBox bb b]
  | .rm n bn => SatH [nBox bn n]
/-- The address that it has caught is the file's. -/
def CRow.at (ad : Nat → Nat) : CRow → Prop
  | .cr _ f fa _ _ => fa = ad f
  | .re _ _ f fa _ _ _ => fa = ad f
  | .rm .. => True

abbrev dkBlk (p : Nat) (q fuse : Int) (off : Bool) (bn bs : Nat) (X : Option Addr) (n cx : Nat) : HP := blk p (.cells #[.int .i64 fuse, .bool off, .int .i64 q, .map (some bn), .map (some bs), .slice X n cx] 55 (0, 0))
abbrev dkList (p : Nat) (D : VD) (bn bs : Nat) (X : Option Addr) (cx : Nat) (cs : List CRow) (rs : List FRow) : List HP :=
  [dkBlk p D.q D.fuse D.off bn bs X D.ch.length cx, mp sV okS bn (dirV (adr rs) D.now), mp sV okS bs (dirV (adr rs) D.sure), own 62 1 X cx D.ch.length (cs.map CRow.val), SatH (cs.map CRow.hp), SatH (rs.map FRow.hp)]

/-- A disk lies at p. -/
def DK (p : Nat) (D : VD) : HP := fun h => ∃ x : (Nat × Nat × Option Addr × Nat) × List CRow × List FRow, (x.2.1.map CRow.chg = D.ch ∧ frs x.2.2 = D.fs ∧ ∀ c ∈ x.2.1, c.at (adr x.2.2)) ∧ SatH (dkList p D x.1.1 x.1.2.1 x.1.2.2.1 x.1.2.2.2 x.2.1 x.2.2) h

section
variable {w0 w : World} {L : List HP} {p : Nat} {D : VD}
theorem DK.opened (h : Sat w0 w (DK p D :: L)) :
    ∃ (bn bs : Nat) (X : Option Addr) (cx : Nat) (cs : List CRow) (rs : List FRow), cs.map CRow.chg = D.ch ∧ frs rs = D.fs ∧ (∀ c ∈ cs, c.at (adr rs)) ∧
      Sat w0 w (dkBlk p D.q D.fuse D.off bn bs X D.ch.length cx :: mp sV okS bn (dirV (adr rs) D.now) :: mp sV okS bs (dirV (adr rs) D.sure) :: own 62 1 X cx D.ch.length (cs.map CRow.val) :: SatH (cs.map CRow.hp) :: SatH (rs.map FRow.hp) :: L) := by
  obtain ⟨⟨⟨bn, bs, X, cx⟩, cs, rs⟩, h1⟩ := h.ex
  obtain ⟨⟨h2, h3, h5⟩, h4⟩ := h1.pure
  exact ⟨bn, bs, X, cx, cs, rs, h2, h3, h5, h4.split⟩

theorem DK.made {bn bs : Nat} {X : Option Addr} {cx : Nat} {cs : List CRow} {rs : List FRow} (h1 : cs.map CRow.chg = D.ch) (h2 : frs rs = D.fs) (h3 : ∀ c ∈ cs, c.at (adr rs))
    (h : Sat w0 w (dkBlk p D.q D.fuse D.off bn bs X D.ch.length cx :: mp sV okS bn (dirV (adr rs) D.now) :: mp sV okS bs (dirV (adr rs) D.sure) :: own 62 1 X cx D.ch.length (cs.map CRow.val) :: SatH (cs.map CRow.hp) :: SatH (rs.map FRow.hp) :: L)) : Sat w0 w (DK p D :: L) := by
  have h4 : Sat w0 w (SatH (dkList p D bn bs X cx cs rs) :: L) := Sat.join (M := dkList p D bn bs X cx cs rs) h
  exact h4.to_head fun _ hb => ⟨((bn, bs, X, cx), cs, rs), ⟨h1, h2, h3⟩, hb⟩

theorem mpKeys {κ : Type} {kv : κ → Value} {ok : κ → Prop} {b : Nat} {l : List (κ × Value)} (hs : Sat w0 w (mp kv ok b l :: L)) : (l.map (·.1)).Nodup ∧ ∀ p ∈ l, ok p.1 := by
  obtain ⟨es, clock, _, _, h1, h2, h3⟩ := hs.mp_inv
  exact ⟨mp_nodup h1 h2, h3⟩

theorem bagSet {M : List HP} {i : Nat} {p q : HP} (hi : M[i]? = some p) (hs : Sat w0 w (q :: SatH (M.eraseIdx i) :: L)) : Sat w0 w (SatH (M.set i q) :: L) := by
  have hlt := (List.getElem?_eq_some_iff.1 hi).1
  refine Sat.bag_put (i := i) (p := q) ?_ ?_
  · rw [List.getElem?_set_self hlt]
  · rw [List.eraseIdx_set_eq]; exact hs
end

/-! ### Files -/
section
variable {w0 w : World} {L : List HP} {rs : List FRow} {i : Nat} {r : FRow}
theorem fhp_at (hi : rs[i]? = some r) : (rs.map FRow.hp)[i]? = some r.hp := by rw [List.getElem?_map, hi]; rfl
theorem adr_at (hi : rs[i]? = some r) : adr rs i = r.ad := by unfold adr; rw [hi]; rfl
theorem frs_at (hi : rs[i]? = some r) : (frs rs)[i]? = some (r.b, r.sy) := by unfold frs; rw [List.getElem?_map, hi]; rfl
theorem frs_len : (frs rs).length = rs.length := by simp [frs]

theorem files_take (hi : rs[i]? = some r) (hs : Sat w0 w (SatH (rs.map FRow.hp) :: L)) : Sat w0 w (fBlk r :: fOwn r :: SatH ((rs.map FRow.hp).eraseIdx i) :: L) :=
  (hs.bag_take (fhp_at hi)).split

theorem file_cl0 (hi : rs[i]? = some r) : Cl w0 (SatH (rs.map FRow.hp) :: L) ⟨r.ad, 0, none⟩ (.slice r.A r.b.length r.cap) := fun w hs => (Cl.blk rfl) w (files_take hi hs)
theorem file_cl1 (hi : rs[i]? = some r) : Cl w0 (SatH (rs.map FRow.hp) :: L) ⟨r.ad, 1, none⟩ (.int .i64 (r.sy : Int)) := fun w hs => (Cl.blk rfl) w (files_take hi hs)
theorem file_rd (hi : rs[i]? = some r) : Rd w0 (SatH (rs.map FRow.hp) :: L) r.A r.b.length 1 (B8 r.b) := fun w hs => (Rd.cons Rd.own) w (files_take hi hs)
theorem file_celled (hi : rs[i]? = some r) (hs : Sat w0 w (SatH (rs.map FRow.hp) :: L)) : Celled w r.ad := (files_take hi hs).celled (.here _)

theorem adr_set (r' : FRow) (hi : rs[i]? = some r) (h : r'.ad = r.ad) : adr (rs.set i r') = adr rs := by
  funext k
  unfold adr
  rw [List.getElem?_set]
  split
  · rename_i e; subst e; rw [hi]; simp [(List.getElem?_eq_some_iff.1 hi).1, h]
  · rfl
theorem frs_set (r' : FRow) : frs (rs.set i r') = (frs rs).set i (r'.b, r'.sy) := by unfold frs; rw [List.map_set]
theorem fhp_set (r' : FRow) : (rs.set i r').map FRow.hp = (rs.map FRow.hp).set i r'.hp := by rw [List.map_set]

theorem files_put {r' : FRow} (hi : rs[i]? = some r) (hs : Sat w0 w (fBlk r' :: fOwn r' :: SatH ((rs.map FRow.hp).eraseIdx i) :: L)) : Sat w0 w (SatH ((rs.set i r').map FRow.hp) :: L) := by
  rw [fhp_set]
  exact bagSet (fhp_at hi) (Sat.join (M := [fBlk r', fOwn r']) hs)

theorem adr_snoc {k : Nat} (hk : k < rs.length) : adr (rs ++ [r]) k = adr rs k := by
  unfold adr
  rw [List.getElem?_append_left hk]
theorem adr_last : adr (rs ++ [r]) rs.length = r.ad := by
  unfold adr
  simp

/-- Two files are two. -/
theorem adr_inj {j : Nat} (hs : Sat w0 w (SatH (rs.map FRow.hp) :: L)) (hi : i < rs.length) (hj : j < rs.length) (h : adr rs i = adr rs j) : i = j := by
  obtain ⟨r, hr⟩ : ∃ r, rs[i]? = some r := ⟨rs[i], List.getElem?_eq_getElem hi⟩
  obtain ⟨s, hs'⟩ : ∃ s, rs[j]? = some s := ⟨rs[j], List.getElem?_eq_getElem hj⟩
  rw [adr_at hr, adr_at hs'] at h
  by_cases e : i = j
  · exact e
  · exfalso
    have h1 := files_take hr hs
    have h2 : Sat w0 w (SatH ((rs.map FRow.hp).eraseIdx i) :: fBlk r :: L) := h1.pick (by (repeat (first | exact Pick.nil _ | exact Pick.tail _ | exact Out.here _ | apply Out.there | apply Pick.cons | apply Pick.drop)))
    obtain ⟨k, hk⟩ : ∃ k, ((rs.map FRow.hp).eraseIdx i)[k]? = some s.hp := by
      rcases Nat.lt_or_gt_of_ne e with hlt | hgt
      · refine ⟨j - 1, ?_⟩
        rw [List.getElem?_eraseIdx, if_neg (by omega), show j - 1 + 1 = j from by omega]
        exact fhp_at hs'
      · refine ⟨j, ?_⟩
        rw [List.getElem?_eraseIdx, if_pos hgt]
        exact fhp_at hs'
    have h3 : Sat w0 w (fBlk s :: fOwn s :: _ :: fBlk r :: L) := (h2.bag_take hk).split
    exact h3.ne (.there _ _ _ (.there _ _ _ (.here _))) h.symm
end

instance : MapT Try.prog 52 9 58 := ⟨Try.underlying52⟩
instance : MapT Try.prog 67 58 4 := ⟨Try.underlying67⟩
instance : PtrT Try.prog 58 60 := by
  obtain ⟨i, g1, _, g3, _⟩ := (inferInstance : Inf Try.prog 60 _ _ _).h
  exact ⟨Try.underlying58, i, g1, by rw [g3]; decide⟩
theorem ktS : KT Try.prog 9 sV okS := ktStr Try.underlying9
end Go.Proofs.Ytiofgdgmlnhekaa
