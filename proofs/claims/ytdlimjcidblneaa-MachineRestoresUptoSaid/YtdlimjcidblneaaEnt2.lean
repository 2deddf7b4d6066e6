/-
  Entries: what may be. (right and RightEntry are alike.)
-/
import Derived.Test.YtdlimjcidblneaaSrv4
import Derived.Test.YtdlimjcidblneaaWire9
import Derived.Test.YtdlimjcidblneaaWk
namespace Go.Proofs.Ytdlimjcidblneaa
open Go Go.RowKit Sl Go.Shelf

/-- An entry. -/
structure Ent where
  t : Int
  i : Int
  k : Int
  d : List UInt8

set_option maxHeartbeats 1000000
set_option maxRecDepth 8000

end Go.Proofs.Ytdlimjcidblneaa

/-
  WireServers: the walk.
-/
namespace Go.Proofs.Ytdlimjcidblneaa
open Go Go.RowKit Sl Go.Shelf

theorem I8_one (l : List Int) : ∀ u ∈ I8 l, u.oneCell' = true := by intro u hu; simp [I8] at hu; obtain ⟨c, _, rfl⟩ := hu; rfl

end Go.Proofs.Ytdlimjcidblneaa

/-
  WireReads: the walk.
-/
namespace Go.Proofs.Ytdlimjcidblneaa
open Go Go.RowKit Sl Go.Shelf

theorem rdBytes_len {e : Int} {l y l2 : List UInt8} {e2 : Int} (h : rdBytes e l = (y, e2, l2)) : l2.length ≤ l.length ∧ y.length ≤ l.length := by
  obtain ⟨⟨v, e3, l3⟩, hx⟩ : ∃ x, rdNumber e l = x := ⟨_, rfl⟩
  obtain ⟨_, _, hl, _⟩ := rdNumber_ok hx
  unfold rdBytes at h
  rw [hx] at h
  simp only at h
  split at h
  · cases h; simp
  · split at h
    · cases h; simp
    · split at h
      · cases h; simp
      · cases h; simp; omega

theorem RR.err {w0 : World} {L : List HP} {buf : HP} {q : Nat} {e : Int} {l : List UInt8} : Cl w0 (RR buf q e l :: L) ⟨q, 2, none⟩ (.int .i64 e) := by
  intro w hs
  obtain ⟨A, c, B, at_, h1, h2, h3, rfl, h5, h6⟩ := RR.opened hs
  exact Cl.blk (L := L) (cur := #[.slice A B.length c, .int .i64 at_, .int .i64 e]) rfl w h6

end Go.Proofs.Ytdlimjcidblneaa

/-
  Entries as bytes, and back: EntryBytes, PutEntry, ReadEntry, GetEntry (the program's and the document's).
-/
namespace Go.Proofs.Ytdlimjcidblneaa
open Go Go.RowKit Sl Go.Shelf

set_option maxHeartbeats 1000000
set_option maxRecDepth 8000

end Go.Proofs.Ytdlimjcidblneaa
