/-
  Entries: what may be. (right and RightEntry are alike.)
-/
import Derived.Test.YtdlimjcidblneaaSrv4
import Derived.Test.YtdlimjcidblneaaWire9
import Derived.Test.YtdlimjcidblneaaWk
namespace Go.Proofs.Ytdlimjcidblneaa
open Go Go.RowKit Sl Go.Shelf

/-- An entry. -/
structure Ent where
  t : Int
  i : Int
  k : Int
  d : List UInt8

/-- May it be? -/
def rightE (x : Ent) : Bool :=
  if x.t < 1 ∨ 1099511627776 ≤ x.t ∨ x.i < 1 ∨ 1099511627776 ≤ x.i then false
  else if x.k = 1 then ((x.d.length : Int) == 0) else if x.k = 2 then decide ((x.d.length : Int) ≤ 4096) else if x.k = 3 then ((getServers x.d).2 == 0) else false

set_option maxHeartbeats 1000000
set_option maxRecDepth 8000

end Go.Proofs.Ytdlimjcidblneaa

/-
  WireServers: the walk.
-/
namespace Go.Proofs.Ytdlimjcidblneaa
open Go Go.RowKit Sl Go.Shelf

theorem I8_one (l : List Int) : ∀ u ∈ I8 l, u.oneCell' = true := by intro u hu; simp [I8] at hu; obtain ⟨c, _, rfl⟩ := hu; rfl

theorem getServers_back {b : List UInt8} {ys : List Int} (h : getServers b = (ys, 0)) : putServers ys = (b, 0) := by
  unfold getServers at h
  simp only at h
  split at h
  · rename_i h2
    simp only [Prod.mk.injEq, and_true] at h
    subst h
    simp [putServers, h2.1, h2.2]
  · simp at h

theorem getServers_small {b : List UInt8} {ys : List Int} {g : Int} (h : getServers b = (ys, g)) : ys.length ≤ 7 := by
  unfold getServers at h
  simp only at h
  split at h
  · simp only [Prod.mk.injEq] at h
    rw [← h.1, rdMany_length]; omega
  · simp only [Prod.mk.injEq] at h
    rw [← h.1]; simp

end Go.Proofs.Ytdlimjcidblneaa

/-
  WireReads: the walk.
-/
namespace Go.Proofs.Ytdlimjcidblneaa
open Go Go.RowKit Sl Go.Shelf

theorem rdBytes_len {e : Int} {l y l2 : List UInt8} {e2 : Int} (h : rdBytes e l = (y, e2, l2)) : l2.length ≤ l.length ∧ y.length ≤ l.length := by
  obtain ⟨⟨v, e3, l3⟩, hx⟩ : ∃ x, rdNumber e l = x := ⟨_, rfl⟩
  obtain ⟨_, _, hl, _⟩ := rdNumber_ok hx
  unfold rdBytes at h
  rw [hx] at h
  simp only at h
  split at h
  · cases h; simp
  · split at h
    · cases h; simp
    · split at h
      · cases h; simp
      · cases h; simp; omega

theorem RR.err {w0 : World} {L : List HP} {buf : HP} {q : Nat} {e : Int} {l : List UInt8} : Cl w0 (RR buf q e l :: L) ⟨q, 2, none⟩ (.int .i64 e) := by
  intro w hs
  obtain ⟨A, c, B, at_, h1, h2, h3, rfl, h5, h6⟩ := RR.opened hs
  exact Cl.blk (L := L) (cur := #[.slice A B.length c, .int .i64 at_, .int .i64 e]) rfl w h6

end Go.Proofs.Ytdlimjcidblneaa

/-
  Entries as bytes, and back: EntryBytes, PutEntry, ReadEntry, GetEntry (the program's and the document's).
-/
namespace Go.Proofs.Ytdlimjcidblneaa
open Go Go.RowKit Sl Go.Shelf

def entBytes (x : Ent) : List UInt8 := num x.t.toNat ++ num x.i.toNat ++ num x.k.toNat ++ (num x.d.length ++ x.d)
def putEntry (x : Ent) : List UInt8 × Int := if rightE x then (entBytes x, 0) else ([], 1)
/-- An entry read: the entry, the reader's error, what is left. -/
def rdEntry (e : Int) (b : List UInt8) : Ent × Int × List UInt8 :=
  let t := rdNumber e b
  let i := rdNumber t.2.1 t.2.2
  let k := rdNumber i.2.1 i.2.2
  let d := rdBytes k.2.1 k.2.2
  (⟨t.1, i.1, k.1, d.1⟩, d.2)

def getEntry (b : List UInt8) : Ent × Int :=
  if rdEnd (rdEntry 0 b).2.1 (rdEntry 0 b).2.2 = 0 ∧ rightE (rdEntry 0 b).1 = true then ((rdEntry 0 b).1, 0) else (⟨0, 0, 0, []⟩, 21)

theorem putServers_len_le {xs : List Int} {d : List UInt8} (h : putServers xs = (d, 0)) : d.length ≤ 64 := by
  unfold putServers at h
  split at h
  · rename_i hok
    obtain ⟨⟨h1, h7⟩, hr⟩ := (okServers_iff xs).1 hok
    have hb := rise_bounds (by omega) hr
    simp only [Prod.mk.injEq, and_true] at h
    rw [← h]
    unfold srvBytes
    have hn := num_len6 xs.length (by omega)
    have hs : ∀ (l : List Int), (∀ x ∈ l, 0 ≤ x ∧ x < 16) → ((l.map fun n => num n.toNat).flatten).length ≤ 7 * l.length := by
      intro l
      induction l with
      | nil => intro _; simp
      | cons x l ih =>
        intro hb
        have h1 := ih (fun y hy => hb y (by simp [hy]))
        have h2 := num_len6 x.toNat (by have := hb x (by simp); omega)
        simp only [List.map_cons, List.flatten_cons, List.length_append, List.length_cons]
        omega
    have := hs xs hb
    simp only [List.length_append]
    omega
  · simp at h

theorem rightE_iff {x : Ent} (h : rightE x = true) : 1 ≤ x.t ∧ x.t < 1099511627776 ∧ 1 ≤ x.i ∧ x.i < 1099511627776 ∧ 1 ≤ x.k ∧ x.k ≤ 3 ∧ x.d.length ≤ 4096 := by
  unfold rightE at h
  split at h
  · cases h
  · rename_i hb
    have e1 : 1 ≤ x.t := by omega
    have e2 : x.t < 1099511627776 := by omega
    have e3 : 1 ≤ x.i := by omega
    have e4 : x.i < 1099511627776 := by omega
    split at h
    · have := of_decide_eq_true (by simpa using h : decide (x.d = []) = true)
      refine ⟨e1, e2, e3, e4, by omega, by omega, ?_⟩
      rw [this]; simp
    · split at h
      · have := of_decide_eq_true h
        exact ⟨e1, e2, e3, e4, by omega, by omega, by omega⟩
      · split at h
        · have hz : (getServers x.d).2 = 0 := by simpa using h
          have hp := getServers_back (b := x.d) (ys := (getServers x.d).1) (by rw [← hz])
          have := putServers_len_le hp
          exact ⟨e1, e2, e3, e4, by omega, by omega, by omega⟩
        · cases h

set_option maxHeartbeats 1000000
set_option maxRecDepth 8000

theorem RdBB.four {w0 : World} {L : List HP} {E : TypeId} {b c : Nat} {A B C D : Option Addr} {ca cb cc cd na nb nc nd : Nat} {la lb lc ld : List UInt8} (ha : Rd w0 L A na 1 (B8 la)) (hb : Rd w0 L B nb 1 (B8 lb)) (hc : Rd w0 L C nc 1 (B8 lc)) (hd : Rd w0 L D nd 1 (B8 ld)) (ea : na = la.length) (eb : nb = lb.length) (ec : nc = lc.length) (ed : nd = ld.length) :
    RdBB w0 (own E 1 (some ⟨b, 0, none⟩) c 4 [.slice A na ca, .slice B nb cb, .slice C nc cc, .slice D nd cd] :: L) (some ⟨b, 0, none⟩) 4 [la, lb, lc, ld] := by
  subst ea eb ec ed
  refine ⟨_, Rd.own, rfl, rfl, fun i l hl => ?_⟩
  match i, hl with
  | 0, hl => cases hl; exact ⟨A, ca, rfl, ha.cons⟩
  | 1, hl => cases hl; exact ⟨B, cb, rfl, hb.cons⟩
  | 2, hl => cases hl; exact ⟨C, cc, rfl, hc.cons⟩
  | 3, hl => cases hl; exact ⟨D, cd, rfl, hd.cons⟩
  | i + 4, hl => simp at hl

theorem rdEntry_len {e : Int} {b r : List UInt8} {x : Ent} {g : Int} (h : rdEntry e b = (x, g, r)) : x.d.length ≤ b.length := by
  obtain ⟨⟨t, e1, r1⟩, x1⟩ : ∃ x, rdNumber e b = x := ⟨_, rfl⟩
  obtain ⟨⟨i, e2, r2⟩, x2⟩ : ∃ x, rdNumber e1 r1 = x := ⟨_, rfl⟩
  obtain ⟨⟨k, e3, r3⟩, x3⟩ : ∃ x, rdNumber e2 r2 = x := ⟨_, rfl⟩
  obtain ⟨⟨d, e4, r4⟩, x4⟩ : ∃ x, rdBytes e3 r3 = x := ⟨_, rfl⟩
  have l1 := (rdNumber_ok x1).2.2.1
  have l2 := (rdNumber_ok x2).2.2.1
  have l3 := (rdNumber_ok x3).2.2.1
  obtain ⟨l4, l5⟩ := rdBytes_len x4
  simp only [rdEntry, x1, x2, x3, x4, Prod.mk.injEq] at h
  rw [← h.1]; simp only; omega

/-- It has returned the entry x.1 (with bytes of its own) and the error x.2. -/
def RetE (w0 : World) (L : List HP) (x : Ent × Int) (e : Ending) (w' : World) : Prop :=
  ∃ A c, e = .returned (.tuple #[.agg #[.int .i64 x.1.t, .int .i64 x.1.i, .int .i64 x.1.k, .slice A x.1.d.length c], .int .i64 x.2]) ∧ Sat w0 w' (own 5 1 A c x.1.d.length (B8 x.1.d) :: L)

theorem rdBytes_ok {e : Int} {l y l2 : List UInt8} {e2 : Int} (h : rdBytes e l = (y, e2, l2)) : l2.length ≤ l.length ∧ y.length ≤ l.length := rdBytes_len h

/-- It has returned the entry x. -/
def RetRE (w0 : World) (L : List HP) (x : Ent) (e : Ending) (w' : World) : Prop :=
  ∃ A c, e = .returned (.agg #[.int .i64 x.t, .int .i64 x.i, .int .i64 x.k, .slice A x.d.length c]) ∧ Sat w0 w' (own 5 1 A c x.d.length (B8 x.d) :: L)

end Go.Proofs.Ytdlimjcidblneaa
