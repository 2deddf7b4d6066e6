/-
  Restore, plainly: what is restored is good, and saves the same bytes.
-/
import Derived.Test.YtdlimjcidblneaaMq10
import Derived.Test.YtdlimjcidblneaaEntL
namespace Go.Proofs.Ytdlimjcidblneaa
open Go Go.RowKit Sl Go.Shelf
set_option maxHeartbeats 2000000

theorem rs4_inv {e : Int} {b r : List UInt8} {v : Int × Int × Int × Int} (h : rs4 e b = (v, 0, r)) : e = 0 ∧ b = nms [v.1, v.2.1, v.2.2.1, v.2.2.2] ++ r ∧ ∀ x ∈ [v.1, v.2.1, v.2.2.1, v.2.2.2], 0 ≤ x ∧ x < 281474976710656 := by
  obtain ⟨⟨a, e1, r1⟩, x1⟩ : ∃ z, rdNumber e b = z := ⟨_, rfl⟩
  obtain ⟨⟨c, e2, r2⟩, x2⟩ : ∃ z, rdNumber e1 r1 = z := ⟨_, rfl⟩
  obtain ⟨⟨d, e3, r3⟩, x3⟩ : ∃ z, rdNumber e2 r2 = z := ⟨_, rfl⟩
  obtain ⟨⟨f, e4, r4⟩, x4⟩ : ∃ z, rdNumber e3 r3 = z := ⟨_, rfl⟩
  simp only [rs4, x1, x2, x3, x4, Prod.mk.injEq] at h
  obtain ⟨rfl, rfl, rfl⟩ := h
  obtain ⟨rfl, f1, f2, rfl⟩ := rdNumber_inv x4
  obtain ⟨rfl, d1, d2, rfl⟩ := rdNumber_inv x3
  obtain ⟨rfl, c1, c2, rfl⟩ := rdNumber_inv x2
  obtain ⟨rfl, a1, a2, rfl⟩ := rdNumber_inv x1
  refine ⟨rfl, by simp [nms], ?_⟩
  intro x hx
  simp only [List.mem_cons, List.not_mem_nil, or_false] at hx
  rcases hx with rfl | rfl | rfl | rfl <;> omega

theorem rsRec_inv : ∀ (k : Nat) (acc : List (List UInt8)) (e : Int) (b : List UInt8) {l : List (List UInt8)} {r : List UInt8}, rsRec k acc e b = some (l, 0, r) →
    e = 0 ∧ ∃ l2, l = acc ++ l2 ∧ l2.length = k ∧ b = recB l2 ++ r ∧ ∀ d ∈ l2, d.length ≤ 1024
  | 0, acc, e, b, l, r, h => by
    simp only [rsRec, Option.some.injEq, Prod.mk.injEq] at h
    obtain ⟨rfl, rfl, rfl⟩ := h
    exact ⟨rfl, [], by simp, rfl, by simp [recB], by simp⟩
  | k + 1, acc, e, b, l, r, h => by
    obtain ⟨⟨y, e1, r1⟩, x1⟩ : ∃ z, rdBytes e b = z := ⟨_, rfl⟩
    simp only [rsRec, x1] at h
    split at h
    · rename_i hc
      obtain ⟨rfl, hy⟩ := hc
      obtain ⟨rfl, hb⟩ := rdBytes_inv x1
      obtain ⟨_, l2, rfl, rfl, rfl, hd⟩ := rsRec_inv k _ _ _ h
      refine ⟨rfl, y :: l2, by simp, rfl, by rw [hb]; simp [recB, txt], fun d hd2 => ?_⟩
      rcases List.mem_cons.1 hd2 with rfl | hd2
      · exact hy
      · exact hd d hd2
    · cases h

theorem rsSes_inv (ap nx : Int) : ∀ (k : Nat) (was : Int) (acc : List (Int × Se)) (e : Int) (b : List UInt8) {ss : List (Int × Se)} {r : List UInt8}, rsSes ap nx k was acc e b = some (ss, 0, r) →
    e = 0 ∧ ∃ s2, ss = acc ++ s2 ∧ s2.length = k ∧ b = sesB s2 ++ r ∧ (s2.map (·.1)).Pairwise (· < ·) ∧ (∀ x ∈ s2, was < x.1) ∧
      ∀ x ∈ s2, 0 ≤ x.2.q ∧ x.2.q < 1099511627776 ∧ 0 ≤ x.2.n ∧ (x.2.n < nx ∨ x.2.n = 0) ∧ x.1 ≤ x.2.t ∧ x.2.t ≤ ap ∧ x.1 ≤ ap
  | 0, was, acc, e, b, ss, r, h => by
    simp only [rsSes, Option.some.injEq, Prod.mk.injEq] at h
    obtain ⟨rfl, rfl, rfl⟩ := h
    exact ⟨rfl, [], by simp, rfl, by simp [sesB], by simp, by simp, by simp⟩
  | k + 1, was, acc, e, b, ss, r, h => by
    obtain ⟨⟨v, e1, r1⟩, x1⟩ : ∃ z, rs4 e b = z := ⟨_, rfl⟩
    simp only [rsSes, x1] at h
    split at h
    · rename_i hc
      obtain ⟨rfl, s2, rfl, rfl, rfl, h1, h2, h3⟩ := rsSes_inv ap nx k _ _ _ _ h
      obtain ⟨rfl, rfl, hv⟩ := rs4_inv x1
      obtain ⟨c1, c2, c3, c4, c5, c6⟩ := hc
      obtain ⟨id, q, n, t⟩ := v
      simp only at c1 c2 c3 c4 c5 c6 h2
      have v1 := hv q (by simp)
      have v2 := hv n (by simp)
      refine ⟨rfl, sesOf (id, q, n, t) :: s2, by simp, rfl, by simp [sesB, seNum, sesOf], ?_, fun x hx => ?_, fun x hx => ?_⟩
      · simp only [List.map_cons]
        refine List.pairwise_cons.2 ⟨fun y hy => ?_, h1⟩
        obtain ⟨z, hz, rfl⟩ := List.mem_map.1 hy
        exact h2 z hz
      · rcases List.mem_cons.1 hx with rfl | hx
        · exact c1
        · have := h2 x hx; omega
      · rcases List.mem_cons.1 hx with rfl | hx
        · simp only [sesOf]; omega
        · exact h3 x hx
    · cases h

theorem recB_len : ∀ (l : List (List UInt8)), l.length ≤ (recB l).length
  | [] => by simp
  | d :: l => by
    have := recB_len l
    have h1 : 1 ≤ (num d.length).length := by simp [num]
    simp only [recB, txt, List.map_cons, List.flatten_cons, List.length_append, List.length_cons] at this ⊢
    omega

theorem restore_inv {sp : Int} {b : List UInt8} {M : Mc} (h : (Mc.restore sp b).1 = some M) : M.Good ∧ (M.ss.map (·.1)).Pairwise (· < ·) ∧ M.save = b ∧ M.l.length ≤ b.length ∧ (Mc.restore sp b).2 = 0 := by
  obtain ⟨⟨⟨ap, st, nx, n⟩, e4, r4⟩, x4⟩ : ∃ z, rs4 0 b = z := ⟨_, rfl⟩
  unfold Mc.restore at h ⊢
  rw [x4] at h ⊢
  by_cases hsp : sp < 1 ∨ 1099511627776 < sp
  · rw [if_pos hsp] at h; cases h
  · rw [if_neg hsp] at h ⊢
    simp only at h ⊢
    by_cases hh : hdOk (ap, st, nx, n)
    · rw [if_pos hh] at h ⊢
      cases hS : rsSes ap nx n.toNat 0 [] e4 r4 with
      | none => rw [hS] at h; cases h
      | some z =>
        obtain ⟨ss, e5, r5⟩ := z
        rw [hS] at h
        simp only [rsFin1] at h ⊢
        cases hR : rsRec (nx - st).toNat [] e5 r5 with
        | none => rw [hR] at h; cases h
        | some z =>
          obtain ⟨l, e6, r6⟩ := z
          rw [hR] at h
          simp only [rsFin] at h ⊢
          by_cases hE : rdEnd e6 r6 = 0
          · rw [if_pos hE] at h ⊢
            simp only [Option.some.injEq] at h
            subst h
            obtain ⟨rfl, rfl⟩ := rdEnd_zero hE
            obtain ⟨rfl, l2, rfl, hl2, rfl, hd⟩ := rsRec_inv _ _ _ _ hR
            obtain ⟨rfl, s2, rfl, hs2, rfl, hs3, hs4, hs5⟩ := rsSes_inv _ _ _ _ _ _ _ hS
            obtain ⟨_, rfl, hv⟩ := rs4_inv x4
            simp only at hv
            have v1 := hv ap (by simp)
            have v2 := hv st (by simp)
            have v3 := hv nx (by simp)
            have v4 := hv n (by simp)
            obtain ⟨q1, q2, q3, q4⟩ := hh
            simp only at q1 q2 q3 q4
            have hln : st + (l.length : Int) = nx := by omega
            have hsn : (ss.length : Int) = n := by omega
            have hg : Mc.Good ⟨sp, ap, st, l, ss⟩ := by
              refine ⟨⟨by simp only; omega, by simp only; omega, by simp only; omega, by simp only; omega, fun x hx => ?_⟩, hd, fun x hx => ?_, hs3.imp (by intro a b h; omega), by simp only; omega⟩
              · have := hs4 x hx; have := hs5 x hx; simp only at this ⊢; omega
              · have := hs5 x hx; simp only; rw [hln]; omega
            refine ⟨hg, hs3, ?_, ?_, rfl⟩
            · rw [← saveR_sorted (M := ⟨sp, ap, st, l, ss⟩) hs3]
              unfold Mc.saveR Mc.head
              simp only
              rw [hln, hsn]; simp
            · have := recB_len l
              simp only [List.length_append]; omega
          · rw [if_neg hE] at h; cases h
    · rw [if_neg hh] at h; cases h
end Go.Proofs.Ytdlimjcidblneaa
