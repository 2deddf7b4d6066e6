/-
  WireServers: the walk.
-/
import Derived.Test.YtcpcdhlfdabbnaaSrv4
namespace Go.Proofs.Ytcpcdhlfdabbnaa
open Go Go.RowKit Sl Go.Shelf

theorem I8_one (l : List Int) : ∀ u ∈ I8 l, u.oneCell' = true := by intro u hu; simp [I8] at hu; obtain ⟨c, _, rfl⟩ := hu; rfl

theorem getServers_back {b : List UInt8} {ys : List Int} (h : getServers b = (ys, 0)) : putServers ys = (b, 0) := by
  unfold getServers at h
  simp only at h
  split at h
  · rename_i h2
    simp only [Prod.mk.injEq, and_true] at h
    subst h
    simp [putServers, h2.1, h2.2]
  · simp at h

theorem getServers_small {b : List UInt8} {ys : List Int} {g : Int} (h : getServers b = (ys, g)) : ys.length ≤ 7 := by
  unfold getServers at h
  simp only at h
  split at h
  · simp only [Prod.mk.injEq] at h
    rw [← h.1, rdMany_length]; omega
  · simp only [Prod.mk.injEq] at h
    rw [← h.1]; simp

end Go.Proofs.Ytcpcdhlfdabbnaa
