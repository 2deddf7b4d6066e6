/-
  A machine, plainly: what stays good; machines that are alike but for their sessions' order; what is saved is restored.
-/
import Derived.Test.YtdlimjcidblneaaMsr
namespace Go.Proofs.Ytdlimjcidblneaa
open Go Go.RowKit Sl Go.Shelf
set_option maxHeartbeats 2000000

theorem cmd_put_in (b : List UInt8) (h : (cmd b).k = 2) : 1 ≤ (cmd b).x ∧ (cmd b).x < 1099511627776 ∧ 1 ≤ (cmd b).y ∧ (cmd b).y < 1099511627776 ∧ (cmd b).d.length ≤ 1024 := by
  unfold cmd at h ⊢
  dsimp only at h ⊢
  split at h
  · rename_i h2
    rw [if_pos h2]
    simp only at h ⊢
    split at h
    · cases h
    · split at h
      · cases h
      · rename_i h5
        simp only [okNum, decide_eq_false_iff_not, not_or, Classical.not_not, Nat.not_lt] at h5
        omega
  · split at h
    · simp only at h
      split at h
      · cases h
      · split at h <;> cases h
    · rename_i g1 g2
      simp only at h
      split at h
      · cases h
      · split at h
        · cases h
        · exact absurd h g1

theorem setSe_keys (M : Mc) (id : Int) (s : Se) : (M.setSe id s).ss.map (·.1) = M.ss.map (·.1) := by
  unfold Mc.setSe
  simp only [List.map_map]
  refine List.map_congr_left fun x _ => ?_
  simp only [Function.comp]
  split
  · rename_i e; exact e.symm
  · rfl

theorem seAt_mem {M : Mc} {id : Int} {s : Se} (h : M.seAt id = some s) : (id, s) ∈ M.ss := by
  unfold Mc.seAt at h
  cases hf : M.ss.find? (fun x => decide (x.1 = id)) with
  | none => rw [hf] at h; cases h
  | some y =>
    rw [hf] at h
    simp only [Option.map_some, Option.some.injEq] at h
    have h1 := List.mem_of_find?_eq_some hf
    have h2 := List.find?_some hf
    simp only [decide_eq_true_eq] at h2
    rw [← h, ← h2]; exact h1

theorem mem_setSe {M : Mc} {id : Int} {s : Se} {x : Int × Se} (h : x ∈ (M.setSe id s).ss) : (x ∈ M.ss) ∨ x = (id, s) := by
  unfold Mc.setSe at h
  obtain ⟨y, hy, rfl⟩ := List.mem_map.1 h
  split
  · exact .inr rfl
  · exact .inl hy

theorem Mc.Good.new {sp : Int} (h : 1 ≤ sp ∧ sp ≤ 1099511627776) : (Mc.new sp).Good := ⟨Mc.new_ok h, by simp [Mc.new], by simp [Mc.new], by simp [Mc.new], by simp [Mc.new]⟩

theorem put_good {M : Mc} {id q : Int} {d : List UInt8} (h : M.Good) (hok : (M.put id q d).2.Ok) (hq : 0 ≤ q ∧ q < 1099511627776) (hd : d.length ≤ 1024) : (M.put id q d).2.Good := by
  unfold Mc.put at hok ⊢
  cases hat : M.seAt id with
  | none => exact h
  | some s =>
    have hm := seAt_mem hat
    have h1 := h.se _ hm
    have h2 := h.ok.ids _ hm
    have h3 := h.ok.st
    rw [hat] at hok
    simp only at h1 h2 hok ⊢
    split
    · rename_i c1
      rw [if_pos c1] at hok
      refine ⟨hok, h.big, fun x hx => ?_, by rw [setSe_keys]; exact h.nod, by have := h.few; simpa [Mc.setSe] using this⟩
      rcases mem_setSe hx with hx | rfl
      · exact h.se x hx
      · simp only [Mc.setSe]; omega
    · rename_i c1
      rw [if_neg c1] at hok
      split
      · rename_i c2
        rw [if_pos c2] at hok
        refine ⟨hok, fun x hx => ?_, fun x hx => ?_, by simp only; rw [setSe_keys]; exact h.nod, by have := h.few; simpa [Mc.setSe] using this⟩
        · rcases List.mem_append.1 hx with hx | hx
          · exact h.big x hx
          · simp only [List.mem_singleton] at hx; subst hx; exact hd
        · simp only [Mc.setSe, List.length_append, List.length_cons, List.length_nil]
          rcases mem_setSe (M := M) hx with hx | rfl
          · have := h.se x hx; omega
          · simp only; omega
      · rename_i c2
        rw [if_neg c2] at hok
        refine ⟨hok, h.big, fun x hx => ?_, by rw [setSe_keys]; exact h.nod, by have := h.few; simpa [Mc.setSe] using this⟩
        rcases mem_setSe hx with hx | rfl
        · exact h.se x hx
        · simp only [Mc.setSe]; omega

theorem expire_good {M : Mc} {ix : Int} (h : M.Good) (h1 : M.ap < ix) (h2 : ix < 1099511627776) : (M.expire ix).Good where
  ok := ⟨h.ok.sp, by have := h.ok.ap; simp only [Mc.expire]; omega, h.ok.st, by have := h.ok.len; simp only [Mc.expire]; omega, fun x hx => by
    have := h.ok.ids x (List.mem_filter.1 hx).1
    simp only [Mc.expire]; omega⟩
  big := h.big
  se x hx := by have := h.se x (List.mem_filter.1 hx).1; simp only [Mc.expire]; omega
  nod := h.nod.sublist (List.Sublist.map _ List.filter_sublist)
  few := Nat.le_trans (List.length_filter_le _ _) h.few

theorem apply_good {M : Mc} {ix : Int} {b : List UInt8} (h : M.Good) : (M.apply ix b).2.Good := by
  have hok := (apply_ok (ix := ix) (b := b) h.ok).1
  unfold Mc.apply at hok ⊢
  split
  · exact h
  · rename_i g1
    rw [if_neg g1] at hok
    split
    · exact h
    · rename_i g2
      rw [if_neg g2] at hok
      have he := expire_good (ix := ix) h (by omega) (by omega)
      have hids : ∀ x ∈ (M.expire ix).ss, x.1 < ix := fun x hx => by have := h.ok.ids x (List.mem_filter.1 hx).1; omega
      have hap : (M.expire ix).ap = ix := rfl
      have h0 := h.ok.ap
      obtain ⟨M1, hM1⟩ : ∃ M1, M.expire ix = M1 := ⟨_, rfl⟩
      rw [hM1] at he hok hids hap ⊢
      unfold Mc.does at hok ⊢
      split
      · rename_i k1
        rw [if_pos k1] at hok
        split
        · exact he
        · rename_i f1
          rw [if_neg f1] at hok
          refine ⟨hok, he.big, fun x hx => ?_, ?_, by simp only [Mc.opened, List.length_append, List.length_cons, List.length_nil]; omega⟩
          · simp only [Mc.opened, List.mem_append, List.mem_singleton] at hx
            simp only [Mc.opened]
            rcases hx with hx | rfl
            · exact he.se x hx
            · exact ⟨Int.le_refl _, by simp only; omega, Int.le_refl _, .inr rfl, Int.le_refl _, by simp only; omega⟩
          · simp only [Mc.opened, List.map_append, List.map_cons, List.map_nil]
            refine List.nodup_append.2 ⟨he.nod, by simp, fun a ha c hc e => ?_⟩
            simp only [List.mem_singleton] at hc
            obtain ⟨y, hy, rfl⟩ := List.mem_map.1 ha
            have := hids y hy
            omega
      · rename_i k1
        rw [if_neg k1] at hok
        split
        · rename_i k2
          rw [if_pos k2] at hok
          have hc := cmd_put_in b k2
          exact put_good he hok (by omega) (by omega)
        · rename_i k2
          rw [if_neg k2] at hok
          split
          · rename_i k3
            rw [if_pos k3] at hok
            have ht : M1.st ≤ M1.trimTo (cmd b).x ∧ M1.trimTo (cmd b).x ≤ M1.st + M1.l.length := by unfold Mc.trimTo; omega
            refine ⟨hok, fun x hx => he.big x (List.mem_of_mem_drop hx), fun x hx => ?_, he.nod, he.few⟩
            have := he.se x hx
            simp only [Mc.trim, List.length_drop]
            omega
          · exact he

/-! ### Alike -/
structure Mc.Eqv (M N : Mc) : Prop where
  sp : M.sp = N.sp
  ap : M.ap = N.ap
  st : M.st = N.st
  l : M.l = N.l
  ss : M.ss.Perm N.ss

theorem Mc.Eqv.refl (M : Mc) : M.Eqv M := ⟨rfl, rfl, rfl, rfl, .refl _⟩
theorem Mc.Eqv.symm {M N : Mc} (h : M.Eqv N) : N.Eqv M := ⟨h.sp.symm, h.ap.symm, h.st.symm, h.l.symm, h.ss.symm⟩
theorem Mc.Eqv.trans {M N O : Mc} (h : M.Eqv N) (k : N.Eqv O) : M.Eqv O := ⟨h.sp.trans k.sp, h.ap.trans k.ap, h.st.trans k.st, h.l.trans k.l, h.ss.trans k.ss⟩

theorem seAt_of_mem {M : Mc} (hn : (M.ss.map (·.1)).Nodup) {id : Int} {s : Se} (h : (id, s) ∈ M.ss) : M.seAt id = some s := by
  unfold Mc.seAt; rw [find_one hn h]; rfl

theorem seAt_eqv {M N : Mc} (h : M.Eqv N) (hn : (M.ss.map (·.1)).Nodup) (id : Int) : M.seAt id = N.seAt id := by
  have hn2 : (N.ss.map (·.1)).Nodup := (h.ss.map (·.1)).nodup_iff.1 hn
  cases hm : M.seAt id with
  | some s => exact (seAt_of_mem hn2 (h.ss.subset (seAt_mem hm))).symm
  | none =>
    cases hk : N.seAt id with
    | none => rfl
    | some s =>
      have := seAt_of_mem hn (h.ss.symm.subset (seAt_mem hk))
      rw [hm] at this; cases this

theorem setSe_eqv {M N : Mc} (h : M.Eqv N) (id : Int) (s : Se) : (M.setSe id s).Eqv (N.setSe id s) := ⟨h.sp, h.ap, h.st, h.l, h.ss.map _⟩

theorem put_eqv {M N : Mc} (h : M.Eqv N) (hn : (M.ss.map (·.1)).Nodup) (id q : Int) (d : List UInt8) : (M.put id q d).1 = (N.put id q d).1 ∧ (M.put id q d).2.Eqv (N.put id q d).2 := by
  unfold Mc.put
  rw [seAt_eqv h hn id]
  cases N.seAt id with
  | none => exact ⟨rfl, h⟩
  | some s =>
    simp only
    rw [h.ap, h.st, h.l]
    split
    · exact ⟨rfl, setSe_eqv h _ _⟩
    · split
      · exact ⟨rfl, ⟨h.sp, h.ap, h.st, rfl, (setSe_eqv h _ _).ss⟩⟩
      · exact ⟨rfl, setSe_eqv h _ _⟩

theorem apply_eqv {M N : Mc} (h : M.Eqv N) (hn : (M.ss.map (·.1)).Nodup) (ix : Int) (b : List UInt8) : (M.apply ix b).1 = (N.apply ix b).1 ∧ (M.apply ix b).2.Eqv (N.apply ix b).2 := by
  unfold Mc.apply
  rw [h.ap]
  split
  · exact ⟨rfl, h⟩
  · split
    · exact ⟨rfl, h⟩
    · have he : (M.expire ix).Eqv (N.expire ix) := ⟨h.sp, rfl, h.st, h.l, by simp only [Mc.expire]; rw [h.sp]; exact h.ss.filter _⟩
      have hn1 : ((M.expire ix).ss.map (·.1)).Nodup := hn.sublist (List.Sublist.map _ List.filter_sublist)
      obtain ⟨M1, hM1⟩ : ∃ M1, M.expire ix = M1 := ⟨_, rfl⟩
      obtain ⟨N1, hN1⟩ : ∃ N1, N.expire ix = N1 := ⟨_, rfl⟩
      rw [hM1] at he hn1 ⊢
      rw [hN1] at he ⊢
      have ht : M1.trimTo (cmd b).x = N1.trimTo (cmd b).x := by unfold Mc.trimTo; rw [he.st, he.l]
      unfold Mc.does
      rw [he.ss.length_eq, ht]
      split
      · split
        · exact ⟨rfl, he⟩
        · exact ⟨rfl, ⟨he.sp, he.ap, he.st, he.l, he.ss.append_right _⟩⟩
      · split
        · have hp := put_eqv he hn1 (cmd b).x (cmd b).y (cmd b).d
          exact ⟨by simp only; rw [hp.1], hp.2⟩
        · split
          · exact ⟨rfl, ⟨he.sp, he.ap, by simp only [Mc.trim]; exact ht, by simp only [Mc.trim]; rw [ht, he.l, he.st], he.ss⟩⟩
          · exact ⟨rfl, he⟩

theorem ss_sorted_eq : ∀ {l k : List (Int × Se)}, l.Perm k → (l.map (·.1)).Pairwise (· < ·) → (k.map (·.1)).Pairwise (· < ·) → l = k
  | [], k, hp, _, _ => hp.nil_eq
  | x :: l, k, hp, hl, hk => by
    cases k with
    | nil => exact absurd hp (by simp)
    | cons y k =>
      have e : x = y := by
        have h1 : y = x ∨ x.1 < y.1 := by
          have : y ∈ x :: l := hp.symm.subset (by simp)
          rcases List.mem_cons.1 this with e | e
          · exact .inl e
          · exact .inr (List.rel_of_pairwise_cons hl (List.mem_map.2 ⟨y, e, rfl⟩))
        have h2 : x = y ∨ y.1 < x.1 := by
          have : x ∈ y :: k := hp.subset (by simp)
          rcases List.mem_cons.1 this with e | e
          · exact .inl e
          · exact .inr (List.rel_of_pairwise_cons hk (List.mem_map.2 ⟨x, e, rfl⟩))
        rcases h1 with h1 | h1
        · exact h1.symm
        · rcases h2 with h2 | h2
          · exact h2
          · omega
      subst e
      rw [ss_sorted_eq (List.Perm.cons_inv hp) hl.of_cons hk.of_cons]

theorem lt_of_le_nodup {l : List Int} (h : l.Pairwise (· ≤ ·)) (hn : l.Nodup) : l.Pairwise (· < ·) := (h.and hn).imp (fun ⟨h1, h2⟩ => by omega)

theorem seSort_lt {ss : List (Int × Se)} (hn : (ss.map (·.1)).Nodup) : ((seSort ss).map (·.1)).Pairwise (· < ·) :=
  lt_of_le_nodup (seSort_sorted ss) (((seSort_perm ss).map (·.1)).nodup_iff.2 hn)

theorem seSort_eqv {l k : List (Int × Se)} (h : l.Perm k) (hn : (l.map (·.1)).Nodup) : seSort l = seSort k :=
  ss_sorted_eq ((seSort_perm l).trans (h.trans (seSort_perm k).symm)) (seSort_lt hn) (seSort_lt ((h.map (·.1)).nodup_iff.1 hn))

theorem save_eqv {M N : Mc} (h : M.Eqv N) (hn : (M.ss.map (·.1)).Nodup) : M.save = N.save := by
  unfold Mc.save Mc.head
  rw [h.ap, h.st, h.l, h.ss.length_eq, seSort_eqv h.ss hn]

end Go.Proofs.Ytdlimjcidblneaa
