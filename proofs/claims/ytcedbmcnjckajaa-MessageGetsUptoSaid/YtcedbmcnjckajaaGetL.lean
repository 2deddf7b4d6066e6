/-
  Messages: how long their bytes are, what is got.
-/
import Derived.Test.YtcedbmcnjckajaaGet1
namespace Go.Proofs.Ytcedbmcnjckajaa
open Go Go.RowKit Sl Go.Shelf
set_option maxHeartbeats 20000000
set_option maxRecDepth 8000

theorem catEnts_len (l : List Ent) (h : l.all rightE = true) : (catEnts l).length ≤ 4300 * l.length := by
  induction l with
  | nil => simp [catEnts]
  | cons x l ih =>
    simp only [List.all_cons, Bool.and_eq_true] at h
    have h1 := entBytes_len h.1
    have h2 := text_len (l := entBytes x) (by omega)
    have h3 := ih h.2
    have e : catEnts (x :: l) = text (entBytes x) ++ catEnts l := by simp [catEnts]
    rw [e, List.length_append, List.length_cons]
    omega

theorem msgBytes_len {m : Msg} (h : rightM m = true) : (msgBytes m).length ≤ 200000 := by
  obtain ⟨hP, hA, hS⟩ := rightM_iff.1 h
  obtain ⟨hN, h8, h3, hD, h5⟩ := rightP_iff.1 hP
  have hn := okNums_iff.1 hN
  have l0 := num_len6 m.kd.toNat (by omega)
  have l1 := num_len6 m.fr.toNat (by omega)
  have l2 := num_len6 m.dn.toNat (by omega)
  have l3 := num_len6 m.tm.toNat (by omega)
  have l4 := num_len6 m.na.toNat (by omega)
  have l5 := num_len6 m.nb.toNat (by omega)
  have l6 := num_len6 m.nc.toNat (by omega)
  have l7 := num_len6 m.nd.toNat (by omega)
  have ly : (yesBytes m.yes).length ≤ 2 := by cases m.yes <;> simp [yes_false, yes_true]
  have lc := catEnts_len m.es hA
  have le := num_len6 m.es.length (by omega)
  have lt := text_len (l := m.dt) (by omega)
  have ht : (msgTail m).length ≤ 100000 := by
    unfold msgTail
    split
    · rw [List.length_append]; omega
    · split
      · rename_i k5
        have ls := srvBytes_len (hS k5)
        have lu := text_len (l := srvBytes m.sv) (by omega)
        rw [List.length_append]; omega
      · simp
  have hc : (catNums m.nums).length ≤ 64 := by simp [catNums, Msg.nums]; omega
  unfold msgBytes
  rw [List.length_append, List.length_append]
  omega

theorem getMsg_bounds {b : List UInt8} {m : Msg} {e : Int} (h : getMsg b = (m, e)) : m.es.length ≤ 8 ∧ m.sv.length ≤ 7 ∧ m.dt.length ≤ 65536 ∧ ∀ x ∈ m.es, x.d.length ≤ 4096 ∧ In64 x.t ∧ In64 x.i ∧ In64 x.k := by
  unfold getMsg at h
  split at h
  · rename_i hc
    simp only [Prod.mk.injEq] at h
    rw [h.1] at hc
    obtain ⟨hP, hA, hS⟩ := rightM_iff.1 hc.2.2
    obtain ⟨hN, h8, h3, hD, h5⟩ := rightP_iff.1 hP
    refine ⟨h8, ?_, hD, fun x hx => ?_⟩
    · by_cases k5 : m.kd = 5
      · exact ((okServers_iff _).1 (hS k5)).1.2
      · omega
    · have := rightE_iff (List.all_eq_true.1 hA x hx)
      exact ⟨this.2.2.2.2.2.2, by unfold In64; omega, by unfold In64; omega, by unfold In64; omega⟩
  · simp only [Prod.mk.injEq] at h
    rw [← h.1]
    exact ⟨by simp [zeroMsg], by simp [zeroMsg], by simp [zeroMsg], fun x hx => by cases hx⟩

theorem putMsg_right {m : Msg} {p : List UInt8} (h : putMsg m = (p, 0)) : rightM m = true ∧ p = msgBytes m := by
  unfold putMsg at h
  split at h
  · rename_i h1
    simp only [Prod.mk.injEq, and_true] at h
    exact ⟨h1, h.symm⟩
  · simp at h

end Go.Proofs.Ytcedbmcnjckajaa
