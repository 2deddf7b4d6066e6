/-
  The law's 'knows', and the walk of WirePuts.
-/
import Derived.Test.YtcpcdhlfdabbnaaWire3
namespace Go.Proofs.Ytcpcdhlfdabbnaa
open Go Go.RowKit Sl

theorem num_300 : num 300 = [2, 44, 1] := by simp [num, le_pos, le_zero]
theorem pn_300 : putNumber 300 = ([2, 44, 1], 0) := by simp [putNumber, num_300]
theorem ps_12 : putServers [1, 2] = ([1, 2, 1, 1, 1, 2], 0) := by simp [putServers, okServers, rise, srvBytes, num, le_pos, le_zero]

theorem RdBB.cons {w0 : World} {p : HP} {L : List HP} {A : Option Addr} {n : Nat} {ls : List (List UInt8)} (h : RdBB w0 L A n ls) : RdBB w0 (p :: L) A n ls := by
  obtain ⟨vs, h1, h2, h3, h4⟩ := h
  exact ⟨vs, h1.cons, h2, h3, fun i l hl => let ⟨B, c, h5, h6⟩ := h4 i l hl; ⟨B, c, h5, h6.cons⟩⟩

theorem Hid.mk' {p : Prop} (h : p) : Hid p := h
/-- The first bytes of what was lent. -/
theorem Rd.lent {w0 : World} {L : List HP} {g c : Nat} (l : List UInt8) : Rd w0 (own 5 1 (some ⟨g, 0, none⟩) c (l.length + 2) (B8 (l ++ [201, 202])) :: L) (some ⟨g, 0, none⟩) l.length 1 (B8 l) := by
  have := Rd.own_take (w0 := w0) (L := L) (E := 5) (sz := 1) (A := some ⟨g, 0, none⟩) (c := c) (n := l.length + 2) (xs := B8 (l ++ [201, 202])) l.length (by omega)
  rw [Nat.mul_one] at this
  rwa [show (B8 (l ++ [201, 202])).take l.length = B8 l from by rw [B8_app, List.take_left' (B8_length l)]] at this

end Go.Proofs.Ytcpcdhlfdabbnaa
