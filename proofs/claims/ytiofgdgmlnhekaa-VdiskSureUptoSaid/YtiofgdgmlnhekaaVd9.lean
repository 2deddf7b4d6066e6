/-
  The disk: Used, Cut, Down, Read.
-/
import Derived.Test.YtiofgdgmlnhekaaVd8
namespace Go.Proofs.Ytiofgdgmlnhekaa
open Go Go.RowKit Sl Go.Shelf Go.Maps
set_option maxHeartbeats 20000000
set_option maxRecDepth 8000

theorem dirV_mem {ad : Nat → Nat} {d : Dr} {x : Nm} {v : Value} (h : (x, v) ∈ dirV ad d) : ∃ f, (x, f) ∈ d ∧ v = pV (ad f) := by
  obtain ⟨p, hp, e⟩ := List.mem_map.1 h
  simp only [Prod.mk.injEq] at e
  exact ⟨p.2, by rw [← e.1]; exact hp, e.2.symm⟩

theorem ddel_none {d : Dr} {n : Nm} (h : ∀ p ∈ d, p.1 ≠ n) : ddel d n = d := List.filter_eq_self.2 (fun p hp => by simpa using h p hp)

theorem sum_del {g : Nm × Nat → Nat} : ∀ {d : Dr} {p : Nm × Nat}, (d.map (·.1)).Nodup → p ∈ d → (d.map g).sum = g p + ((ddel d p.1).map g).sum ∧ (ddel d p.1).length + 1 = d.length
  | [], _, _, h => by cases h
  | q :: d, p, hn, h => by
    simp only [List.map_cons, List.nodup_cons] at hn
    rcases List.mem_cons.1 h with rfl | h
    · have e : ddel (p :: d) p.1 = d := by
        unfold ddel
        rw [List.filter_cons_of_neg (by simp)]
        exact ddel_none fun q hq e => hn.1 (List.mem_map.2 ⟨q, hq, e⟩)
      rw [e]; simp
    · have hne : q.1 ≠ p.1 := fun e => hn.1 (List.mem_map.2 ⟨p, h, e.symm⟩)
      have e : ddel (q :: d) p.1 = q :: ddel d p.1 := by
        unfold ddel
        rw [List.filter_cons_of_pos (by simpa using hne)]
      obtain ⟨h1, h2⟩ := sum_del (g := g) hn.2 h
      rw [e]
      simp only [List.map_cons, List.sum_cons, List.length_cons]
      omega

theorem ddel_nodup {d : Dr} {n : Nm} (h : (d.map (·.1)).Nodup) : ((ddel d n).map (·.1)).Nodup := h.sublist (List.Sublist.map _ List.filter_sublist)

theorem len_le {D : VD} (hok : D.Ok) (f : Nat) : D.len f ≤ 1048576 := by
  unfold VD.len
  cases h : D.fs[f]? with
  | none => simp
  | some x => exact (hok.fs x (List.mem_of_getElem? h)).2

theorem sum_le {g : Nm × Nat → Nat} {N : Nat} (hg : ∀ p, g p ≤ N) : ∀ d : Dr, (d.map g).sum ≤ d.length * N
  | [] => by simp
  | p :: d => by
    simp only [List.map_cons, List.sum_cons, List.length_cons, Nat.add_mul, Nat.one_mul]
    have := sum_le hg d
    have := hg p
    omega

theorem used_le {D : VD} (hok : D.Ok) : D.used ≤ 536870912 := by
  have h1 := sum_le (g := fun p => D.len p.2) (fun p => len_le hok p.2) D.now
  have h2 := hok.nowlen
  have h3 : D.now.length * 1048576 ≤ 512 * 1048576 := Nat.mul_le_mul_right _ h2
  unfold VD.used
  omega

section
variable {w0 w : World} {L : List HP} {p bn bs n cx : Nat} {X : Option Addr} {D : VD} {rs : List FRow}
theorem used_spec (hok : D.Ok) (h2 : frs rs = D.fs) (hs : Sat w0 w (mp sV okS bn (dirV (adr rs) D.now) :: dkBlk p D.q D.fuse D.off bn bs X n cx :: SatH (rs.map FRow.hp) :: L)) :
    Calls Try.prog 20 #[.pointer (some ⟨p, 0, none⟩)] w (fun e w' => e = .returned (.int .i64 (D.used : Int)) ∧ Sat w0 w' (mp sV okS bn (dirV (adr rs) D.now) :: dkBlk p D.q D.fuse D.off bn bs X n cx :: SatH (rs.map FRow.hp) :: L)) := by
  have hmay := fun (w : World) (M : List HP) (hs : Sat w0 w M) (hc : Cl w0 M ⟨p, 3, none⟩ (.map (some bn))) => may_no hs hc
  have hU := used_le hok
  have hnd : (D.now.map (·.1)).Nodup := by have := (mpKeys hs).1; rw [dirV_keys] at this; exact this
  have hrs := hidI (show ∀ x f, (x, f) ∈ D.now → ∃ r, rs[f]? = some r ∧ D.len f = r.b.length from fun x f hx => by
    have h1 := hok.nowlt _ hx
    rw [← h2, frs_len] at h1
    have h3 : rs[f]? = some rs[f] := List.getElem?_eq_getElem h1
    refine ⟨_, h3, ?_⟩
    unfold VD.len
    rw [← h2, frs_at h3]; rfl)
  obtain ⟨U, hUe⟩ : ∃ U, D.used = U := ⟨_, rfl⟩
  have H0 := hidI (show 0 + (D.now.map fun p => D.len p.2).sum = U by rw [← hUe, Nat.zero_add]; rfl)
  have H1 := hidI (show ∀ x ∈ D.now, x ∈ D.now from fun _ h => h)
  rw [hUe] at hU ⊢
  clear h2 hok hUe
  have hfc : ∀ (f : Nat) (r : FRow), rs[f]? = some r → Cl w0 (SatH (rs.map FRow.hp) :: L) ⟨r.ad, 0, none⟩ (.slice r.A r.b.length r.cap) := fun f r h => file_cl0 h
  obtain ⟨N, hN⟩ : ∃ N, D.now = N := ⟨_, rfl⟩
  obtain ⟨len, hlen⟩ : ∃ len, D.len = len := ⟨_, rfl⟩
  rw [hN, hlen] at H0
  rw [hN] at hs hnd H1
  rw [hN, hlen] at hrs
  rw [hN]
  obtain ⟨q, fs, now, sure, ch, fuse, off⟩ := D
  simp only at hs ⊢
  clear hN hlen
  go_enter Try.func20, Try.ntmps20
  refine wk_seq (fun K0 hK0 => ?_); refine wk_reg ?_; refine pl_take (v := ?_) rfl ?_ ?_; rotate_left; (· (go_simp; first | done | with_reducible rfl | rfl | omega | assumption | (simp; omega))); (try simp only [Act.put, aP, aZ, aS]); refine pl_done ?_; refine hK0.out _ _ ?_; (try clear hK0 K0); refine wk_seq (fun K1 hK1 => ?_); refine wk_reg ?_; refine pl_take (v := ?_) rfl ?_ ?_; rotate_left; (· (go_simp; first | done | with_reducible rfl | rfl | omega | assumption | (simp; omega))); (try simp only [Act.put, aP, aZ, aS]); refine pl_done ?_; refine hK1.out _ _ ?_; (try clear hK1 K1); refine wk_seq (fun K2 hK2 => ?_); refine wk_seq (fun K3 hK3 => ?_); refine wk_reg ?_; refine pl_take (v := ?_) rfl ?_ ?_; rotate_left; (· (go_simp; first | done | with_reducible rfl | rfl | omega | assumption | (simp; omega))); (try simp only [Act.put, aP, aZ, aS]); refine pl_eff rfl (fun Kp hKp => ?_); go_simp; (refine (hmay _ _ (by assumption) (by (repeat (first | with_reducible assumption | ((with_reducible apply Cl.own); exact rfl) | ((with_reducible apply Cl.blkL); exact rfl) | with_reducible apply Cl.cons)))).mono ?_; rintro e7 w7 ⟨rfl, hs7⟩); (try go_wp2_with fail); refine hKp.out _ _ ?_; clear hKp Kp; (try simp only [Act.put, aP, aZ, aS]); refine pl_done ?_; refine hK3.out _ _ ?_; (try clear hK3 K3); refine wp_cond_true rfl ?_; refine wk_seq (fun K4 hK4 => ?_); refine wk_reg ?_; (iterate 4 (refine pl_take (v := ?_) rfl ?_ ?_; rotate_left; (· (first | ((with_reducible apply yl_load); assumption; rfl; (repeat (first | with_reducible assumption | ((with_reducible apply Cl.own); exact rfl) | ((with_reducible apply Cl.blkL); exact rfl) | with_reducible apply Cl.cons)); rfl) | (go_simp; first | done | with_reducible rfl | rfl | omega | assumption | (simp; omega)))); (try simp only [Act.put, aP, aZ, aS]))); refine pl_eff rfl (fun Kp hKp => ?_); ((with_reducible apply st_range); assumption; rfl; (repeat (first | with_reducible exact Out.here _ | apply Out.there)); intro b12 w12 hs12); refine hKp.out _ _ ?_; clear hKp Kp; (try simp only [Act.put, aP, aZ, aS]); refine pl_done ?_; refine hK4.out _ _ ?_; (try clear hK4 K4); refine wp_block ?_
  -- at a loop
  go_loopg [3] (N.length) (fun g s3 wr => ∃ (k : Nat) (ls : Dr) (cur : Option (Nm × Value)), s3 = .int .i64 k ∧ ls.length ≤ g ∧ (ls.map (·.1)).Nodup ∧ Hid (k + (ls.map fun p => len p.2).sum = U) ∧ Hid (∀ x ∈ ls, x ∈ N) ∧ Sat w0 wr (mpi sV okS bn b12 (dirV (adr rs) N) (dirV (adr rs) ls) cur :: dkBlk p q fuse off bn bs X n cx :: SatH (rs.map FRow.hp) :: L))
  case atStart => exact ⟨0, N, none, rfl, Nat.le_refl _, hnd, H0, H1, (by assumption : Sat w0 _ _).pick (by (repeat (first | exact Pick.nil _ | exact Pick.tail _ | exact Out.here _ | apply Out.there | apply Pick.cons | apply Pick.drop)))⟩
  case round =>
    obtain ⟨k, ls, cur, rfl, hg, hnd', Hk, Hm, hsC⟩ := hrel
    by_cases hz : ls = []
    · subst hz
      obtain rfl : k = U := by have := Hk.out; simpa using this
      rw [show dirV (adr rs) [] = ([] : List (Nm × Value)) from rfl] at hsC
      refine wk_seq (fun K5 hK5 => ?_); refine wk_reg ?_; refine pl_eff rfl (fun Kp hKp => ?_); ((with_reducible apply st_next_done (cur := cur)); assumption; rfl; (repeat (first | with_reducible exact Out.here _ | apply Out.there))); refine hKp.out _ _ ?_; clear hKp Kp; (try simp only [Act.put, aP, aZ, aS]); refine pl_take (v := .bool false) rfl ?_ ?_; (· (go_simp; first | done | with_reducible rfl | rfl | omega | assumption | (simp; omega))); (try simp only [Act.put, aP, aZ, aS]); refine pl_done ?_; refine hK5.out _ _ ?_; (try clear hK5 K5); refine wk_seq (fun K6 hK6 => ?_); refine wp_cond_false rfl ?_; refine wp_exit ?_; refine hK2.out _ _ ?_; (try clear hK2 K2); refine wk_seq (fun K8 hK8 => ?_); refine wk_reg ?_; (iterate 2 (refine pl_take (v := ?_) rfl ?_ ?_; rotate_left; (· (go_simp; first | done | with_reducible rfl | rfl | omega | assumption | (simp; omega))); (try simp only [Act.put, aP, aZ, aS]))); refine pl_done ?_; refine hK8.out _ _ ?_; (try clear hK8 K8); refine wp_ret ?_
      go_ret
      exact ⟨rfl, ((by assumption : Sat w0 _ (mpi _ _ _ _ _ _ _ :: _)).mpi_end).pick (by (repeat (first | exact Pick.nil _ | exact Pick.tail _ | exact Out.here _ | apply Out.there | apply Pick.cons | apply Pick.drop)))⟩
    · have hne : dirV (adr rs) ls ≠ [] := by intro e; apply hz; simpa [dirV] using e
      have hlen : 0 < ls.length := List.length_pos_iff.2 hz
      have hkU : k ≤ U := by have := Hk.out; omega
      clear hz
      refine wk_seq (fun K5 hK5 => ?_); refine wk_reg ?_; refine pl_eff rfl (fun Kp hKp => ?_); ((with_reducible apply st_next_more ktS); assumption; rfl; (repeat (first | with_reducible exact Out.here _ | apply Out.there)); exact hne; intro x13 v13 w13 hm13 hml13 hs13; obtain ⟨f13, hx13, rfl⟩ := dirV_mem hm13; obtain ⟨r13, hr13, hl13⟩ := hrs.out x13 f13 (Hm.out _ hx13); rw [dirV_del] at hs13; simp only [adr_at hr13, pV] at hs13 ⊢; have hc13 := hfc f13 r13 hr13; have cs13 := sum_del (g := fun p => len p.2) hnd' hx13; simp only [hl13] at cs13; clear hm13 hml13); (obtain ⟨k2, hk2⟩ : ∃ k2, k + r13.b.length = k2 := ⟨_, rfl⟩; have hk2U : k2 ≤ U := (by have := Hk.out; omega); have hwk : IntKind.i64.wrap ((k : Int) + (r13.b.length : Int)) = (k2 : Int) := (by rw [← hk2]; exact IntWalk.i64_in _ (by omega))); refine hKp.out _ _ ?_; clear hKp Kp; (try simp only [Act.put, aP, aZ, aS]); refine pl_take (v := .bool true) rfl ?_ ?_; (· (go_simp; first | done | with_reducible rfl | rfl | omega | assumption | (simp; omega))); (try simp only [Act.put, aP, aZ, aS]); refine pl_done ?_; refine hK5.out _ _ ?_; (try clear hK5 K5); refine wk_seq (fun K6 hK6 => ?_); refine wp_cond_true rfl ?_; refine wp_skip ?_; refine hK6.out _ _ ?_; (try clear hK6 K6); refine wp_block ?_; refine wk_seq (fun K7 hK7 => ?_); refine wk_reg ?_; refine pl_take (v := (.tuple #[sV x13, .pointer (some ⟨r13.ad, 0, none⟩)])) rfl ?_ ?_; (· ((with_reducible apply yl_entry); assumption; rfl; (repeat (first | with_reducible exact Out.here _ | apply Out.there)))); (try simp only [Act.put, aP, aZ, aS]); (iterate 2 (refine pl_take (v := ?_) rfl ?_ ?_; rotate_left; (· (go_simp; first | done | with_reducible rfl | rfl | omega | assumption | (simp; omega))); (try simp only [Act.put, aP, aZ, aS]))); refine pl_done ?_; refine hK7.out _ _ ?_; (try clear hK7 K7); refine wk_reg ?_; (iterate 8 (refine pl_take (v := ?_) rfl ?_ ?_; rotate_left; (· (first | ((with_reducible apply yl_load); assumption; rfl; (repeat (first | with_reducible assumption | ((with_reducible apply Cl.own); exact rfl) | ((with_reducible apply Cl.blkL); exact rfl) | with_reducible apply Cl.cons)); rfl) | (go_simp; first | done | with_reducible rfl | rfl | omega | assumption | (simp; omega)))); (try simp only [Act.put, aP, aZ, aS]))); refine pl_done ?_; (try dsimp only [Exit.inBlock, Exit.then])
      refine (by assumption : ∀ a' w', Handed _ _ a' w' → _) _ _ ?_
      go_roundg (gk - 1)
      case measure => omega
      case rel => exact ⟨k2, ddel ls x13, _, by go_num, by omega, ddel_nodup hnd', by have := Hk.out; exact hidI (by omega), hidI (fun x hx => Hm.out x (ddel_mem hx)), (by assumption : Sat w0 _ _).pick (by (repeat (first | exact Pick.nil _ | exact Pick.tail _ | exact Out.here _ | apply Out.there | apply Pick.cons | apply Pick.drop)))⟩
end
end Go.Proofs.Ytiofgdgmlnhekaa
