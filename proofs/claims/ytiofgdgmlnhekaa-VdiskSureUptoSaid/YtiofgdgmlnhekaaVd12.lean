/-
  The disk: SyncDir, New.
-/
import Derived.Test.YtiofgdgmlnhekaaVd11
namespace Go.Proofs.Ytiofgdgmlnhekaa
open Go Go.RowKit Sl Go.Shelf Go.Maps
set_option maxHeartbeats 20000000
set_option maxRecDepth 8000

theorem cloneDir_run (b : Nat) (es : Array MapEntry) (clock : Nat) (w : World) (hb : w.heap[b]? = some (.map es clock)) :
    Calls Try.prog 31 #[.map (some b)] w fun e w' => e = .returned (.map (some w.heap.size)) ∧ w' = w.alloc (.map es clock) := by
  have hq := fun w => run_eql_map_nil_sl (P := Try.prog) w 52 _ _ (some b) Try.underlying52
  go_enter Try.func31, Try.ntmps31
  go_wp2
  rw [run_callFunc_extern Try.func42 (by kernel_rfl) (by kernel_rfl) (by kernel_rfl) (e := Extern.MapsClone.clone) (by kernel_rfl), run_maps_clone_sl w 52 hb]
  simp only [Result.andThen]
  rw [Oper.upon_value]
  go_wp2
  rw [run_typeAssert_map_sl _ 52 _ _ _ _ Try.underlying52]
  simp only [Result.andThen]
  rw [Oper.upon_value]
  go_wp2
  go_ret
  exact ⟨rfl, rfl⟩

section
variable {w0 w : World} {L : List HP} {p : Nat} {D : VD}
theorem cloneDir_spec {b : Nat} {l : List (Nm × Value)} (hs : Sat w0 w (mp sV okS b l :: L)) :
    Calls Try.prog 31 #[.map (some b)] w (fun e w' => ∃ b', e = .returned (.map (some b')) ∧ Sat w0 w' (mp sV okS b' l :: mp sV okS b l :: L)) := by
  obtain ⟨es, clock, hb, h1⟩ := hs.cloned
  refine (cloneDir_run b es clock w hb).mono ?_
  rintro e w' ⟨rfl, rfl⟩
  exact ⟨_, rfl, h1⟩

theorem syncDir_spec (hok : D.Ok) (hs : Sat w0 w (DK p D :: L)) :
    Calls Try.prog 13 #[.pointer (some ⟨p, 0, none⟩)] w (fun e w' => e = .returned (.int .i64 D.syncDir.1) ∧ Sat w0 w' (DK p D.syncDir.2 :: L)) := by
  obtain ⟨bn, bs, X, cx, cs, rs, h1, h2, h3, hs1⟩ := DK.opened hs
  clear hs
  have hmay := fun (w : World) (M : List HP) (hs : Sat w0 w M) (hc : Cl w0 M ⟨p, 3, none⟩ (.map (some bn))) => may_no hs hc
  have hus := fun (w : World) (L : List HP) (hs : Sat w0 w (dkBlk p D.q D.fuse D.off bn bs X D.ch.length cx :: L)) => use_spec D hok.fuse hs
  unfold VD.syncDir
  by_cases c4 : D.useB = true
  · rw [if_pos c4]
    rw [c4] at hus
    have hfin := hidI (fun (w : World) (b' : Nat) (hs : Sat w0 w (dkBlk p D.use.q D.use.fuse D.use.off bn b' none 0 0 :: mp sV okS b' (dirV (adr rs) D.now) :: mp sV okS bn (dirV (adr rs) D.now) :: SatH (rs.map FRow.hp) :: L)) =>
      show Sat w0 w (DK p { D.use with sure := D.now, ch := [] } :: L) from DK.made (cs := []) (rs := rs) (bn := bn) (bs := b') (X := none) (cx := 0) rfl (by rw [← use_fs] at h2; exact h2) (by simp) (by
        have h9 := (hs.own_nil 62 1).bag_nil
        show Sat w0 w (dkBlk p D.use.q D.use.fuse D.use.off bn b' none 0 0 :: mp sV okS bn (dirV (adr rs) D.use.now) :: mp sV okS b' (dirV (adr rs) D.now) :: own 62 1 none 0 0 [] :: SatH [] :: SatH (rs.map FRow.hp) :: L)
        rw [use_now]
        exact h9.pick (by (repeat (first | exact Pick.nil _ | exact Pick.tail _ | exact Out.here _ | apply Out.there | apply Pick.cons | apply Pick.drop)))))
    clear h1 h2 h3 c4
    go_enter Try.func13, Try.ntmps13
    refine wk_seq (fun K0 hK0 => ?_); refine wk_reg ?_; refine pl_take (v := ?_) rfl ?_ ?_; rotate_left; (· (go_simp; first | done | with_reducible rfl | rfl | omega | assumption | (simp; omega))); (try simp only [Act.put, aP, aZ, aS]); refine pl_done ?_; refine hK0.out _ _ ?_; (try clear hK0 K0); refine wk_seq (fun K1 hK1 => ?_); refine wp_block ?_; refine wk_seq (fun K2 hK2 => ?_); refine wk_reg ?_; refine pl_take (v := ?_) rfl ?_ ?_; rotate_left; (· (go_simp; first | done | with_reducible rfl | rfl | omega | assumption | (simp; omega))); (try simp only [Act.put, aP, aZ, aS]); refine pl_eff rfl (fun Kp hKp => ?_); go_simp; (refine (hmay _ _ (by assumption) (by (repeat (first | with_reducible assumption | ((with_reducible apply Cl.own); exact rfl) | ((with_reducible apply Cl.blkL); exact rfl) | with_reducible apply Cl.cons)))).mono ?_; rintro e5 w5 ⟨rfl, hs5⟩); (try go_wp2_with fail); refine hKp.out _ _ ?_; clear hKp Kp; (try simp only [Act.put, aP, aZ, aS]); refine pl_take (v := ?_) rfl ?_ ?_; rotate_left; (· (go_simp; first | done | with_reducible rfl | rfl | omega | assumption | (simp; omega))); (try simp only [Act.put, aP, aZ, aS]); refine pl_take (v := .bool false) rfl ?_ ?_; (· (go_simp; first | done | with_reducible rfl | rfl | omega | assumption | (simp; omega))); (try simp only [Act.put, aP, aZ, aS]); refine pl_done ?_; refine hK2.out _ _ ?_; (try clear hK2 K2); refine wp_cond_false rfl ?_; refine wk_seq (fun K4 hK4 => ?_); refine wk_reg ?_; (iterate 3 (refine pl_take (v := ?_) rfl ?_ ?_; rotate_left; (· (go_simp; first | done | with_reducible rfl | rfl | omega | assumption | (simp; omega))); (try simp only [Act.put, aP, aZ, aS]))); refine pl_eff rfl (fun Kp hKp => ?_); go_simp; (refine (hus _ _ (by assumption)).mono ?_; rintro e11 w11 ⟨rfl, hs11⟩); (try go_wp2_with fail); refine hKp.out _ _ ?_; clear hKp Kp; (try simp only [Act.put, aP, aZ, aS]); refine pl_take (v := ?_) rfl ?_ ?_; rotate_left; (· (go_simp; first | done | with_reducible rfl | rfl | omega | assumption | (simp; omega))); (try simp only [Act.put, aP, aZ, aS]); refine pl_take (v := .bool false) rfl ?_ ?_; (· (go_simp; first | done | with_reducible rfl | rfl | omega | assumption | (simp; omega))); (try simp only [Act.put, aP, aZ, aS]); refine pl_done ?_; refine hK4.out _ _ ?_; (try clear hK4 K4); refine wp_cond_false rfl ?_; refine wp_skip ?_; refine hK1.out _ _ ?_; (try clear hK1 K1); refine wk_seq (fun K6 hK6 => ?_); refine wk_reg ?_; (iterate 6 (refine pl_take (v := ?_) rfl ?_ ?_; rotate_left; (· (first | ((with_reducible apply yl_load); assumption; rfl; (repeat (first | with_reducible assumption | ((with_reducible apply Cl.own); exact rfl) | ((with_reducible apply Cl.blkL); exact rfl) | with_reducible apply Cl.cons)); rfl) | (go_simp; first | done | with_reducible rfl | rfl | omega | assumption | (simp; omega)))); (try simp only [Act.put, aP, aZ, aS]))); refine pl_eff rfl (fun Kp hKp => ?_); go_simp; (refine (cloneDir_spec ((by assumption : Sat w0 _ (dkBlk _ _ _ _ _ _ _ _ _ :: mp _ _ _ _ :: _)).pick (.cons (.there _ _ _ (.here _)) (.tail _)))).mono ?_; rintro e19 w19 ⟨b19, rfl, hs19⟩); (try go_wp2_with fail); refine hKp.out _ _ ?_; clear hKp Kp; (try simp only [Act.put, aP, aZ, aS]); (iterate 2 (refine pl_take (v := ?_) rfl ?_ ?_; rotate_left; (· (go_simp; first | done | with_reducible rfl | rfl | omega | assumption | (simp; omega))); (try simp only [Act.put, aP, aZ, aS]))); refine pl_eff rfl (fun Kp hKp => ?_); (first | ((with_reducible apply st_store1); assumption; rfl; (go_simp; rfl); (repeat (first | with_reducible exact Out.here _ | apply Out.there)); rfl; rfl; simp; intro wr5_9 hsr5_9; (try simp only [aP] at hsr5_9); (try simp only [aS] at hsr5_9); (try simp only [aZ] at hsr5_9)) | ((with_reducible apply st_store_own); assumption; rfl; (go_simp; rfl); (repeat (first | with_reducible exact Out.here _ | apply Out.there)); rfl; rfl; omega; intro wr5_9 hsr5_9)); refine hKp.out _ _ ?_; clear hKp Kp; (try dsimp only [Act.put]); (iterate 2 (refine pl_take (v := ?_) rfl ?_ ?_; rotate_left; (· (go_simp; first | done | with_reducible rfl | rfl | omega | assumption | (simp; omega))); (try simp only [Act.put, aP, aZ, aS]))); refine pl_eff rfl (fun Kp hKp => ?_); (first | ((with_reducible apply st_store1); assumption; rfl; (go_simp; rfl); (repeat (first | with_reducible exact Out.here _ | apply Out.there)); rfl; rfl; simp; intro wr5_12 hsr5_12; (try simp only [aP] at hsr5_12); (try simp only [aS] at hsr5_12); (try simp only [aZ] at hsr5_12)) | ((with_reducible apply st_store_own); assumption; rfl; (go_simp; rfl); (repeat (first | with_reducible exact Out.here _ | apply Out.there)); rfl; rfl; omega; intro wr5_12 hsr5_12)); refine hKp.out _ _ ?_; clear hKp Kp; (try dsimp only [Act.put]); refine pl_done ?_; refine hK6.out _ _ ?_; (try clear hK6 K6); refine wk_seq (fun K7 hK7 => ?_); refine wk_reg ?_; refine pl_take (v := ?_) rfl ?_ ?_; rotate_left; (· (go_simp; first | done | with_reducible rfl | rfl | omega | assumption | (simp; omega))); (try simp only [Act.put, aP, aZ, aS]); refine pl_done ?_; refine hK7.out _ _ ?_; (try clear hK7 K7); refine wp_ret ?_
    go_ret
    exact ⟨rfl, hfin.out _ b19 ((by assumption : Sat w0 _ _).pick (by (repeat (first | exact Pick.nil _ | exact Pick.tail _ | exact Out.here _ | apply Out.there | apply Pick.cons | apply Pick.drop))))⟩
  · rw [if_neg c4]
    have c4' : D.useB = false := by simpa using c4
    rw [c4'] at hus
    have hfin := hidI (fun (w : World) hs => DK.used (w0 := w0) (w := w) (L := L) (p := p) (bn := bn) (bs := bs) (cx := cx) (X := X) h1 h2 h3 hs)
    clear h1 h2 h3 c4 c4'
    go_enter Try.func13, Try.ntmps13
    refine wk_seq (fun K0 hK0 => ?_); refine wk_reg ?_; refine pl_take (v := ?_) rfl ?_ ?_; rotate_left; (· (go_simp; first | done | with_reducible rfl | rfl | omega | assumption | (simp; omega))); (try simp only [Act.put, aP, aZ, aS]); refine pl_done ?_; refine hK0.out _ _ ?_; (try clear hK0 K0); refine wk_seq (fun K1 hK1 => ?_); refine wp_block ?_; refine wk_seq (fun K2 hK2 => ?_); refine wk_reg ?_; refine pl_take (v := ?_) rfl ?_ ?_; rotate_left; (· (go_simp; first | done | with_reducible rfl | rfl | omega | assumption | (simp; omega))); (try simp only [Act.put, aP, aZ, aS]); refine pl_eff rfl (fun Kp hKp => ?_); go_simp; (refine (hmay _ _ (by assumption) (by (repeat (first | with_reducible assumption | ((with_reducible apply Cl.own); exact rfl) | ((with_reducible apply Cl.blkL); exact rfl) | with_reducible apply Cl.cons)))).mono ?_; rintro e5 w5 ⟨rfl, hs5⟩); (try go_wp2_with fail); refine hKp.out _ _ ?_; clear hKp Kp; (try simp only [Act.put, aP, aZ, aS]); refine pl_take (v := ?_) rfl ?_ ?_; rotate_left; (· (go_simp; first | done | with_reducible rfl | rfl | omega | assumption | (simp; omega))); (try simp only [Act.put, aP, aZ, aS]); refine pl_take (v := .bool false) rfl ?_ ?_; (· (go_simp; first | done | with_reducible rfl | rfl | omega | assumption | (simp; omega))); (try simp only [Act.put, aP, aZ, aS]); refine pl_done ?_; refine hK2.out _ _ ?_; (try clear hK2 K2); refine wp_cond_false rfl ?_; refine wk_seq (fun K4 hK4 => ?_); refine wk_reg ?_; (iterate 3 (refine pl_take (v := ?_) rfl ?_ ?_; rotate_left; (· (go_simp; first | done | with_reducible rfl | rfl | omega | assumption | (simp; omega))); (try simp only [Act.put, aP, aZ, aS]))); refine pl_eff rfl (fun Kp hKp => ?_); go_simp; (refine (hus _ _ (by assumption)).mono ?_; rintro e11 w11 ⟨rfl, hs11⟩); (try go_wp2_with fail); refine hKp.out _ _ ?_; clear hKp Kp; (try simp only [Act.put, aP, aZ, aS]); refine pl_take (v := ?_) rfl ?_ ?_; rotate_left; (· (go_simp; first | done | with_reducible rfl | rfl | omega | assumption | (simp; omega))); (try simp only [Act.put, aP, aZ, aS]); refine pl_take (v := .bool true) rfl ?_ ?_; (· (go_simp; first | done | with_reducible rfl | rfl | omega | assumption | (simp; omega))); (try simp only [Act.put, aP, aZ, aS]); refine pl_done ?_; refine hK4.out _ _ ?_; (try clear hK4 K4); refine wp_cond_true rfl ?_; refine wk_seq (fun K5 hK5 => ?_); refine wk_reg ?_; refine pl_take (v := ?_) rfl ?_ ?_; rotate_left; (· (go_simp; first | done | with_reducible rfl | rfl | omega | assumption | (simp; omega))); (try simp only [Act.put, aP, aZ, aS]); refine pl_done ?_; refine hK5.out _ _ ?_; (try clear hK5 K5); refine wp_ret ?_
    go_ret
    exact ⟨rfl, hfin.out _ ((by assumption : Sat w0 _ _).pick (by (repeat (first | exact Pick.nil _ | exact Pick.tail _ | exact Out.here _ | apply Out.there | apply Pick.cons | apply Pick.drop))))⟩

theorem newD_spec (q : Int) (h : 1 ≤ q ∧ q ≤ 1048576) (hs : Sat w0 w L) :
    Calls Try.prog 7 #[.int .i64 q] w (fun e w' => ∃ p, e = .returned (.tuple #[.pointer (some ⟨p, 0, none⟩), .int .i64 0]) ∧ Sat w0 w' (DK p (VD.new q) :: L)) := by
  go_enter Try.func7, Try.ntmps7
  refine wk_seq (fun K0 hK0 => ?_); refine wk_reg ?_; (iterate 2 (refine pl_take (v := ?_) rfl ?_ ?_; rotate_left; (· (go_simp; first | done | with_reducible rfl | rfl | omega | assumption | (simp; omega))); (try simp only [Act.put, aP, aZ, aS]))); refine pl_done ?_; refine hK0.out _ _ ?_; (try clear hK0 K0); refine wk_seq (fun K1 hK1 => ?_); refine wk_seq (fun K2 hK2 => ?_); refine wk_reg ?_; refine pl_take (v := ?_) rfl ?_ ?_; rotate_left; (· (go_simp; first | done | with_reducible rfl | rfl | omega | assumption | (simp; omega))); (try simp only [Act.put, aP, aZ, aS]); (iterate 2 (refine pl_take (v := .bool false) rfl ?_ ?_; (· (go_simp; first | done | with_reducible rfl | rfl | omega | assumption | (simp; omega))); (try simp only [Act.put, aP, aZ, aS]))); refine pl_take (v := ?_) (by kernel_rfl) ?_ ?_; rotate_left; (· (go_simp; first | done | with_reducible rfl | rfl | omega | assumption | (simp; omega))); (try simp only [Act.put, aP, aZ, aS]); refine pl_take (v := .bool false) (by kernel_rfl) ?_ ?_; (· (go_simp; first | done | with_reducible rfl | rfl | omega | assumption | (simp; omega))); (try simp only [Act.put, aP, aZ, aS]); refine pl_take (v := .bool false) rfl ?_ ?_; (· (go_simp; first | done | with_reducible rfl | rfl | omega | assumption | (simp; omega))); (try simp only [Act.put, aP, aZ, aS]); refine pl_done ?_; refine hK2.out _ _ ?_; (try clear hK2 K2); refine wp_cond_false rfl ?_; refine wp_skip ?_; refine hK1.out _ _ ?_; (try clear hK1 K1); refine wk_seq (fun K4 hK4 => ?_); refine wk_reg ?_; (iterate 2 (refine pl_take (v := ?_) rfl ?_ ?_; rotate_left; (· (go_simp; first | done | with_reducible rfl | rfl | omega | assumption | (simp; omega))); (try simp only [Act.put, aP, aZ, aS]))); refine pl_eff rfl (fun Kp hKp => ?_); ((with_reducible apply st_makeMap sV okS); assumption; intro b12 w12 hs12); refine hKp.out _ _ ?_; clear hKp Kp; (try simp only [Act.put, aP, aZ, aS]); refine pl_eff rfl (fun Kp hKp => ?_); ((with_reducible apply st_makeMap sV okS); assumption; intro b13 w13 hs13); refine hKp.out _ _ ?_; clear hKp Kp; (try simp only [Act.put, aP, aZ, aS]); refine pl_take (v := ?_) rfl ?_ ?_; rotate_left; (· (go_simp; first | done | with_reducible rfl | rfl | omega | assumption | (simp; omega))); (try simp only [Act.put, aP, aZ, aS]); refine pl_eff rfl (fun Kp hKp => ?_); ((with_reducible apply st_box); assumption; (go_simp; rfl); intro b15 w15 hs15; simp only [Value.cells] at hs15); refine hKp.out _ _ ?_; clear hKp Kp; (try simp only [Act.put, aP, aZ, aS]); (iterate 2 (refine pl_take (v := ?_) rfl ?_ ?_; rotate_left; (· (go_simp; first | done | with_reducible rfl | rfl | omega | assumption | (simp; omega))); (try simp only [Act.put, aP, aZ, aS]))); refine pl_done ?_; refine hK4.out _ _ ?_; (try clear hK4 K4); refine wp_ret ?_
  go_ret2
  refine ⟨b15, rfl, DK.made (D := VD.new q) (cs := []) (rs := []) (bn := b12) (bs := b13) (X := none) (cx := 0) rfl rfl (by simp) ?_⟩
  exact (((((by assumption : Sat w0 _ (blk b15 _ :: _)).own_nil 62 1).bag_nil).bag_nil).pick (by (repeat (first | exact Pick.nil _ | exact Pick.tail _ | exact Out.here _ | apply Out.there | apply Pick.cons | apply Pick.drop))))

theorem new_ok (q : Int) (h : 1 ≤ q ∧ q ≤ 1048576) : (VD.new q).Ok where
  q := h
  now := rfl
  sure := by simp [VD.new]
  ch := by simp [VD.new]
  fs := by simp [VD.new]
  fuse := by simp [VD.new]
  few k := by simp [VD.new, applyAll]
end
end Go.Proofs.Ytiofgdgmlnhekaa
