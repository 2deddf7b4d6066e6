/-
  The disk: change, Create, Rename, Remove.
-/
import Derived.Test.YtiofgdgmlnhekaaVd5
namespace Go.Proofs.Ytiofgdgmlnhekaa
open Go Go.RowKit Sl Go.Shelf Go.Maps
set_option maxHeartbeats 20000000
set_option maxRecDepth 8000

theorem use_q (D : VD) : D.use.q = D.q := by unfold VD.use; split <;> rfl
theorem use_fs (D : VD) : D.use.fs = D.fs := by unfold VD.use; split <;> rfl
theorem use_now (D : VD) : D.use.now = D.now := by unfold VD.use; split <;> rfl
theorem use_sure (D : VD) : D.use.sure = D.sure := by unfold VD.use; split <;> rfl
theorem use_ch (D : VD) : D.use.ch = D.ch := by unfold VD.use; split <;> rfl

section
variable {w0 w : World} {L : List HP} {p bn bs n cx : Nat} {X : Option Addr} {l l' : List (Nm × Value)} {vals : List Value} {hpc : HP} {F : Nat} {C : Array Value}
theorem change_ok (D : VD) (hf : -1 ≤ D.fuse ∧ D.fuse ≤ 9223372036854775807) (hF : ∀ args w, (callFunc F args).run Try.prog w = .ok (.enter F args) w)
    (hrow : ∀ w M, Sat w0 w (mp sV okS bn l :: hpc :: M) → Calls Try.prog F (#[.map (some bn)] ++ C) w (fun e w' => e = .returned (.tuple #[]) ∧ Sat w0 w' (mp sV okS bn l' :: hpc :: M)))
    (hu : D.useB = true) (hn : n ≤ 1099511627776) (hs : Sat w0 w (dkBlk p D.q D.fuse D.off bn bs X n cx :: mp sV okS bn l :: own 62 1 X cx n vals :: hpc :: L)) :
    Calls Try.prog 25 #[.pointer (some ⟨p, 0, none⟩), .func (.func F) #[] C] w (fun e w' => ∃ X' cx', e = .returned (.int .i64 0) ∧
      Sat w0 w' (dkBlk p D.use.q D.use.fuse D.use.off bn bs X' (n + 1) cx' :: mp sV okS bn l' :: own 62 1 X' cx' (n + 1) (vals ++ [.func (.func F) #[] C]) :: hpc :: L)) := by
  have hus := fun (w : World) (L : List HP) (hs : Sat w0 w (dkBlk p D.q D.fuse D.off bn bs X n cx :: L)) => use_spec D hf hs
  rw [hu] at hus
  obtain ⟨D1, hD1⟩ : ∃ D1, D.use = D1 := ⟨_, rfl⟩
  rw [hD1] at hus ⊢
  obtain ⟨q1, fs1, now1, sure1, ch1, fuse1, off1⟩ := D1
  obtain ⟨q, fs, now, sure, ch, fuse, off⟩ := D
  clear hf hD1 hu
  simp only at hus hs ⊢
  go_enter Try.func25, Try.ntmps25
  refine wk_seq (fun K0 hK0 => ?_); refine wk_reg ?_; refine pl_take (v := ?_) rfl ?_ ?_; rotate_left; (· (go_simp; first | done | with_reducible rfl | rfl | omega | assumption | (simp; omega))); (try simp only [Act.put, aP, aZ, aS]); refine pl_done ?_; refine hK0.out _ _ ?_; (try clear hK0 K0); refine wk_seq (fun K1 hK1 => ?_); refine wk_seq (fun K2 hK2 => ?_); refine wk_reg ?_; (iterate 3 (refine pl_take (v := ?_) rfl ?_ ?_; rotate_left; (· (go_simp; first | done | with_reducible rfl | rfl | omega | assumption | (simp; omega))); (try simp only [Act.put, aP, aZ, aS]))); refine pl_eff rfl (fun Kp hKp => ?_); go_simp; (refine (hus _ _ (by assumption)).mono ?_; rintro e8 w8 ⟨rfl, hs8⟩); (try go_wp2_with fail); refine hKp.out _ _ ?_; clear hKp Kp; (try simp only [Act.put, aP, aZ, aS]); refine pl_take (v := .bool false) rfl ?_ ?_; (· (go_simp; first | done | with_reducible rfl | rfl | omega | assumption | (simp; omega))); (try simp only [Act.put, aP, aZ, aS]); refine pl_done ?_; refine hK2.out _ _ ?_; (try clear hK2 K2); refine wp_cond_false rfl ?_; refine wp_skip ?_; refine hK1.out _ _ ?_; (try clear hK1 K1); refine wk_seq (fun K4 hK4 => ?_); refine wk_reg ?_; (iterate 5 (refine pl_take (v := ?_) rfl ?_ ?_; rotate_left; (· (first | ((with_reducible apply yl_load); assumption; rfl; (repeat (first | with_reducible assumption | ((with_reducible apply Cl.own); exact rfl) | ((with_reducible apply Cl.blkL); exact rfl) | with_reducible apply Cl.cons)); rfl) | (go_simp; first | done | with_reducible rfl | rfl | omega | assumption | (simp; omega)))); (try simp only [Act.put, aP, aZ, aS]))); refine pl_eff rfl (fun Kp hKp => ?_); go_simp; (refine (hrow _ _ ((by assumption : Sat w0 _ (dkBlk _ _ _ _ _ _ _ _ _ :: _)).pick (.cons (.there _ _ _ (.here _)) (.cons (.there _ _ _ (.there _ _ _ (.here _))) (.tail _))))).mono ?_; rintro e15 w15 ⟨rfl, hs15⟩); (try go_wp2_with fail); refine hKp.out _ _ ?_; clear hKp Kp; (try simp only [Act.put, aP, aZ, aS]); refine pl_done ?_; refine hK4.out _ _ ?_; (try clear hK4 K4); refine wk_seq (fun K5 hK5 => ?_); refine wk_reg ?_; (iterate 6 (refine pl_take (v := ?_) rfl ?_ ?_; rotate_left; (· (first | ((with_reducible apply yl_load); assumption; rfl; (repeat (first | with_reducible assumption | ((with_reducible apply Cl.own); exact rfl) | ((with_reducible apply Cl.blkL); exact rfl) | with_reducible apply Cl.cons)); rfl) | (go_simp; first | done | with_reducible rfl | rfl | omega | assumption | (simp; omega)))); (try simp only [Act.put, aP, aZ, aS]))); refine pl_eff rfl (fun Kp hKp => ?_); ((with_reducible apply st_buildSlice); assumption; rfl; (go_simp; rfl); (simp [Value.cells]); omega; intro b22 w22 hs22); refine hKp.out _ _ ?_; clear hKp Kp; (try simp only [Act.put, aP, aZ, aS]); refine pl_eff rfl (fun Kp hKp => ?_); ((with_reducible apply st_append); go_must (assumption; rfl; rfl; (repeat (first | with_reducible exact Out.here _ | apply Out.there)); (repeat (first | with_reducible assumption | with_reducible exact Rd.own | with_reducible exact Rd.nil | with_reducible apply Rd.cons)); (first | exact B8_one _ | exact I8_one _ | (simp [Value.oneCell'])); (first | omega | (simp only [maxLen]; omega)); omega; intro A23 c23 w23 hs23 hc23; (try ((refine hs23.own_elim ?_ ?_); omega; rintro g23 rfl)); try simp only [Nat.zero_add, List.nil_append] at hs23 hc23)); refine hKp.out _ _ ?_; clear hKp Kp; (try simp only [Act.put, aP, aZ, aS]); (iterate 2 (refine pl_take (v := ?_) rfl ?_ ?_; rotate_left; (· (go_simp; first | done | with_reducible rfl | rfl | omega | assumption | (simp; omega))); (try simp only [Act.put, aP, aZ, aS]))); refine pl_eff rfl (fun Kp hKp => ?_); (first | ((with_reducible apply st_store1); assumption; rfl; (go_simp; rfl); (repeat (first | with_reducible exact Out.here _ | apply Out.there)); rfl; rfl; simp; intro wr4_10 hsr4_10; (try simp only [aP] at hsr4_10); (try simp only [aS] at hsr4_10); (try simp only [aZ] at hsr4_10)) | ((with_reducible apply st_store_own); assumption; rfl; (go_simp; rfl); (repeat (first | with_reducible exact Out.here _ | apply Out.there)); rfl; rfl; omega; intro wr4_10 hsr4_10)); refine hKp.out _ _ ?_; clear hKp Kp; (try dsimp only [Act.put]); refine pl_done ?_; refine hK5.out _ _ ?_; (try clear hK5 K5); refine wk_seq (fun K6 hK6 => ?_); refine wk_reg ?_; refine pl_take (v := ?_) rfl ?_ ?_; rotate_left; (· (go_simp; first | done | with_reducible rfl | rfl | omega | assumption | (simp; omega))); (try simp only [Act.put, aP, aZ, aS]); refine pl_done ?_; refine hK6.out _ _ ?_; (try clear hK6 K6); refine wp_ret ?_
  go_ret
  exact ⟨_, _, rfl, (by assumption : Sat w0 _ _).pick (by (repeat (first | exact Pick.nil _ | exact Pick.tail _ | exact Out.here _ | apply Out.there | apply Pick.cons | apply Pick.drop)))⟩

theorem change_no (D : VD) (fv : Value) (hf : -1 ≤ D.fuse ∧ D.fuse ≤ 9223372036854775807) (hu : D.useB = false) (hs : Sat w0 w (dkBlk p D.q D.fuse D.off bn bs X n cx :: L)) :
    Calls Try.prog 25 #[.pointer (some ⟨p, 0, none⟩), fv] w (fun e w' => e = .returned (.int .i64 9) ∧ Sat w0 w' (dkBlk p D.use.q D.use.fuse D.use.off bn bs X n cx :: L)) := by
  have hus := fun (w : World) (L : List HP) (hs : Sat w0 w (dkBlk p D.q D.fuse D.off bn bs X n cx :: L)) => use_spec D hf hs
  rw [hu] at hus
  obtain ⟨D1, hD1⟩ : ∃ D1, D.use = D1 := ⟨_, rfl⟩
  rw [hD1] at hus ⊢
  obtain ⟨q1, fs1, now1, sure1, ch1, fuse1, off1⟩ := D1
  obtain ⟨q, fs, now, sure, ch, fuse, off⟩ := D
  clear hf hD1 hu
  simp only at hus hs ⊢
  go_enter Try.func25, Try.ntmps25
  refine wk_seq (fun K0 hK0 => ?_); refine wk_reg ?_; refine pl_take (v := ?_) rfl ?_ ?_; rotate_left; (· (go_simp; first | done | with_reducible rfl | rfl | omega | assumption | (simp; omega))); (try simp only [Act.put, aP, aZ, aS]); refine pl_done ?_; refine hK0.out _ _ ?_; (try clear hK0 K0); refine wk_seq (fun K1 hK1 => ?_); refine wk_seq (fun K2 hK2 => ?_); refine wk_reg ?_; (iterate 3 (refine pl_take (v := ?_) rfl ?_ ?_; rotate_left; (· (go_simp; first | done | with_reducible rfl | rfl | omega | assumption | (simp; omega))); (try simp only [Act.put, aP, aZ, aS]))); refine pl_eff rfl (fun Kp hKp => ?_); go_simp; (refine (hus _ _ (by assumption)).mono ?_; rintro e8 w8 ⟨rfl, hs8⟩); (try go_wp2_with fail); refine hKp.out _ _ ?_; clear hKp Kp; (try simp only [Act.put, aP, aZ, aS]); refine pl_take (v := .bool true) rfl ?_ ?_; (· (go_simp; first | done | with_reducible rfl | rfl | omega | assumption | (simp; omega))); (try simp only [Act.put, aP, aZ, aS]); refine pl_done ?_; refine hK2.out _ _ ?_; (try clear hK2 K2); refine wp_cond_true rfl ?_; refine wk_seq (fun K3 hK3 => ?_); refine wk_reg ?_; refine pl_take (v := ?_) rfl ?_ ?_; rotate_left; (· (go_simp; first | done | with_reducible rfl | rfl | omega | assumption | (simp; omega))); (try simp only [Act.put, aP, aZ, aS]); refine pl_done ?_; refine hK3.out _ _ ?_; (try clear hK3 K3); refine wp_ret ?_
  go_ret
  exact ⟨rfl, (by assumption : Sat w0 _ _).pick (by (repeat (first | exact Pick.nil _ | exact Pick.tail _ | exact Out.here _ | apply Out.there | apply Pick.cons | apply Pick.drop)))⟩
end
end Go.Proofs.Ytiofgdgmlnhekaa
