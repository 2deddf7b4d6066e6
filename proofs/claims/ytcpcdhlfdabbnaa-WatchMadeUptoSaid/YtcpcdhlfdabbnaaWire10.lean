/-
  WireReads: the walk.
-/
import Derived.Test.YtcpcdhlfdabbnaaWire9
namespace Go.Proofs.Ytcpcdhlfdabbnaa
open Go Go.RowKit Sl Go.Shelf

theorem rdBytes_len {e : Int} {l y l2 : List UInt8} {e2 : Int} (h : rdBytes e l = (y, e2, l2)) : l2.length ≤ l.length ∧ y.length ≤ l.length := by
  obtain ⟨⟨v, e3, l3⟩, hx⟩ : ∃ x, rdNumber e l = x := ⟨_, rfl⟩
  obtain ⟨_, _, hl, _⟩ := rdNumber_ok hx
  unfold rdBytes at h
  rw [hx] at h
  simp only at h
  split at h
  · cases h; simp
  · split at h
    · cases h; simp
    · split at h
      · cases h; simp
      · cases h; simp; omega

theorem RR.err {w0 : World} {L : List HP} {buf : HP} {q : Nat} {e : Int} {l : List UInt8} : Cl w0 (RR buf q e l :: L) ⟨q, 2, none⟩ (.int .i64 e) := by
  intro w hs
  obtain ⟨A, c, B, at_, h1, h2, h3, rfl, h5, h6⟩ := RR.opened hs
  exact Cl.blk (L := L) (cur := #[.slice A B.length c, .int .i64 at_, .int .i64 e]) rfl w h6

end Go.Proofs.Ytcpcdhlfdabbnaa
