/-
  Two logs, side by side: the document's at, differ and Agree.
-/
import Derived.Test.YtcpcdhlfdabbnaaW6
namespace Go.Proofs.Ytcpcdhlfdabbnaa
open Go Go.RowKit Sl Go.Shelf
set_option maxHeartbeats 20000000
set_option maxRecDepth 8000

theorem refAt_in {w0 w : World} {L : List HP} {ga oa ca cx : Nat} {Ax : Option Addr} (b t : Int) (n ka : Nat) (x : Ent) (h0 : 0 ≤ b) (h1 : b ≤ 549755813888) (hn : n ≤ 1048576) (hk : ka < n) (hs : Sat w0 w L)
    (hrow : Rd w0 L (some ⟨ga, oa + ka * 4, none⟩) 1 4 [.int .i64 x.t, .int .i64 x.i, .int .i64 x.k, .slice Ax x.d.length cx]) (i : Int) (hi : i = b + 1 + ka) :
    Calls Try.prog 44 #[.agg #[.int .i64 b, .int .i64 t, .slice (some ⟨ga, oa, none⟩) n ca], .int .i64 i] w
      (fun e w' => e = .returned (.tuple #[.agg #[.int .i64 x.t, .int .i64 x.i, .int .i64 x.k, .slice Ax x.d.length cx], .bool true]) ∧ Sat w0 w' L) := by
  have k1 : ¬ i ≤ b := by omega
  have k2 : ¬ b + (n : Int) < i := by omega
  have hwa : IntKind.i64.wrap (b + (n : Int)) = b + (n : Int) := IntWalk.i64_in _ (by omega)
  have a0 : (0 : Int) ≤ (ka : Int) := by omega
  have a1 : (ka : Int) < (n : Int) := by omega
  have w1' : IntKind.i64.wrap (i - b) = i - b := IntWalk.i64_in _ (by omega)
  have w2' : IntKind.i64.wrap (i - b - 1) = (ka : Int) := by rw [IntWalk.i64_in _ (by omega)]; omega
  obtain ⟨et, ei, q, d⟩ := x
  simp only at hrow ⊢
  clear hi
  go_enter Try.func44, Try.ntmps44
  refine wk_seq (fun K0 hK0 => ?_)
  refine wk_reg ?_
  refine pl_eff rfl (fun Kp hKp => ?_)
  ((with_reducible apply st_box); assumption; (go_simp; rfl); intro b2 w2 hs2; simp only [Value.cells] at hs2)
  refine hKp.out _ _ ?_
  clear hKp Kp
  (try simp only [Act.put, aP, aZ, aS])
  refine pl_eff rfl (fun Kp hKp => ?_)
  ((with_reducible apply st_alloc); assumption; intro b4 w4 hs4; simp only [Value.cells] at hs4)
  refine hKp.out _ _ ?_
  clear hKp Kp
  (try simp only [Act.put, aP, aZ, aS])
  refine pl_take (v := .bool false) rfl ?_ ?_
  · (go_simp; first | done | with_reducible rfl | rfl | omega | assumption | (simp; omega))
  (try simp only [Act.put, aP, aZ, aS])
  refine pl_done ?_
  refine hK0.out _ _ ?_
  (try clear hK0 K0)
  refine wk_seq (fun K1 hK1 => ?_)
  refine wk_seq (fun K2 hK2 => ?_)
  refine wk_reg ?_
  iterate 3 (refine pl_take (v := ?_) rfl ?_ ?_; rotate_left; (· (first | ((with_reducible apply yl_load); assumption; rfl; (repeat (first | with_reducible assumption | ((with_reducible apply Cl.own); exact rfl) | ((with_reducible apply Cl.blkL); exact rfl) | with_reducible apply Cl.cons)); rfl) | (go_simp; first | done | with_reducible rfl | rfl | omega | assumption | (simp; omega)))); (try simp only [Act.put, aP, aZ, aS]))
  iterate 2 (refine pl_take (v := .bool false) rfl ?_ ?_; (· (go_simp; first | done | with_reducible rfl | rfl | omega | assumption | (simp; omega))); (try simp only [Act.put, aP, aZ, aS]))
  iterate 7 (refine pl_take (v := ?_) (by kernel_rfl) ?_ ?_; rotate_left; (· (first | ((with_reducible apply yl_load); assumption; rfl; (repeat (first | with_reducible assumption | ((with_reducible apply Cl.own); exact rfl) | ((with_reducible apply Cl.blkL); exact rfl) | with_reducible apply Cl.cons)); rfl) | (go_simp; first | done | with_reducible rfl | rfl | omega | assumption | (simp; omega)))); (try simp only [Act.put, aP, aZ, aS]))
  refine pl_take (v := .bool false) (by kernel_rfl) ?_ ?_
  · (go_simp; first | done | with_reducible rfl | rfl | omega | assumption | (simp; omega))
  (try simp only [Act.put, aP, aZ, aS])
  refine pl_take (v := .bool false) rfl ?_ ?_
  · (go_simp; first | done | with_reducible rfl | rfl | omega | assumption | (simp; omega))
  (try simp only [Act.put, aP, aZ, aS])
  refine pl_done ?_
  refine hK2.out _ _ ?_
  (try clear hK2 K2)
  refine wp_cond_false rfl ?_
  refine wp_skip ?_
  refine hK1.out _ _ ?_
  (try clear hK1 K1)
  refine wk_seq (fun K4 hK4 => ?_)
  refine wk_reg ?_
  iterate 9 (refine pl_take (v := ?_) rfl ?_ ?_; rotate_left; (· (first | ((with_reducible apply yl_load); assumption; rfl; (repeat (first | with_reducible assumption | ((with_reducible apply Cl.own); exact rfl) | ((with_reducible apply Cl.blkL); exact rfl) | with_reducible apply Cl.cons)); rfl) | (first | ((with_reducible apply yl_loadAgg); assumption; rfl; (repeat (first | with_reducible exact Out.here _ | apply Out.there)); (simp); rfl; rfl) | ((with_reducible apply yl_loadAggR); assumption; rfl; (repeat (first | with_reducible assumption | with_reducible exact Rd.own | with_reducible exact Rd.nil | with_reducible apply Rd.cons)); rfl)) | (go_simp; first | done | with_reducible rfl | rfl | omega | assumption | (simp; omega)))); (try simp only [Act.put, aP, aZ, aS]))
  refine pl_eff rfl (fun Kp hKp => ?_)
  (first | ((with_reducible apply st_storeAll); assumption; rfl; (go_simp; rfl); (repeat (first | with_reducible exact Out.here _ | apply Out.there)); rfl; (focus (first | (simp [Value.oneCell']; done) | (simp [Value.cells, Value.oneCell']; done))); rfl; intro wr3_9 hsr3_9; simp only [Value.cells] at hsr3_9) | ((with_reducible apply st_store); assumption; rfl; (go_simp; rfl); (repeat (first | with_reducible exact Out.here _ | apply Out.there)); rfl; (first | (focus (simp [Value.oneCell']; done)) | (simp [Value.cells, Value.oneCell'])); (first | (focus (simp; done)) | (simp [Value.cells])); intro wr3_9 hsr3_9; simp only [upd, Value.cells] at hsr3_9))
  refine hKp.out _ _ ?_
  clear hKp Kp
  (try dsimp only [Act.put])
  refine pl_take (v := .bool true) rfl ?_ ?_
  · (go_simp; first | done | with_reducible rfl | rfl | omega | assumption | (simp; omega))
  (try simp only [Act.put, aP, aZ, aS])
  refine pl_done ?_
  refine hK4.out _ _ ?_
  (try clear hK4 K4)
  refine wp_ret ?_
  ((try simp only [Exit.then]); refine retC1T rfl rfl (by assumption) (by (repeat (first | exact Out.here _ | apply Out.there))) (by simp) rfl rfl ?_)
  exact ⟨rfl, (by assumption : Sat w0 _ _).pick (by (repeat (first | exact Pick.nil _ | exact Pick.tail _ | exact Out.here _ | apply Out.there | apply Pick.cons | apply Pick.drop)))⟩

theorem refAt_out {w0 w : World} {L : List HP} {A : Option Addr} {ca : Nat} (b t : Int) (n : Nat) (h0 : 0 ≤ b) (h1 : b ≤ 549755813888) (hn : n ≤ 1048576) (hs : Sat w0 w L) (i : Int) (hi : ¬ (b < i ∧ i ≤ b + n)) :
    Calls Try.prog 44 #[.agg #[.int .i64 b, .int .i64 t, .slice A n ca], .int .i64 i] w
      (fun e w' => e = .returned (.tuple #[.agg #[.int .i64 0, .int .i64 0, .int .i64 0, .slice none 0 0], .bool false]) ∧ Sat w0 w' L) := by
  have hwa : IntKind.i64.wrap (b + (n : Int)) = b + (n : Int) := IntWalk.i64_in _ (by omega)
  by_cases k1 : i ≤ b
  · go_enter Try.func44, Try.ntmps44
    refine wk_seq (fun K0 hK0 => ?_)
    refine wk_reg ?_
    refine pl_eff rfl (fun Kp hKp => ?_)
    ((with_reducible apply st_box); assumption; (go_simp; rfl); intro b2 w2 hs2; simp only [Value.cells] at hs2)
    refine hKp.out _ _ ?_
    clear hKp Kp
    (try simp only [Act.put, aP, aZ, aS])
    refine pl_eff rfl (fun Kp hKp => ?_)
    ((with_reducible apply st_alloc); assumption; intro b4 w4 hs4; simp only [Value.cells] at hs4)
    refine hKp.out _ _ ?_
    clear hKp Kp
    (try simp only [Act.put, aP, aZ, aS])
    refine pl_take (v := .bool false) rfl ?_ ?_
    · (go_simp; first | done | with_reducible rfl | rfl | omega | assumption | (simp; omega))
    (try simp only [Act.put, aP, aZ, aS])
    refine pl_done ?_
    refine hK0.out _ _ ?_
    (try clear hK0 K0)
    refine wk_seq (fun K1 hK1 => ?_)
    refine wk_seq (fun K2 hK2 => ?_)
    refine wk_reg ?_
    iterate 3 (refine pl_take (v := ?_) rfl ?_ ?_; rotate_left; (· (first | ((with_reducible apply yl_load); assumption; rfl; (repeat (first | with_reducible assumption | ((with_reducible apply Cl.own); exact rfl) | ((with_reducible apply Cl.blkL); exact rfl) | with_reducible apply Cl.cons)); rfl) | (go_simp; first | done | with_reducible rfl | rfl | omega | assumption | (simp; omega)))); (try simp only [Act.put, aP, aZ, aS]))
    iterate 2 (refine pl_take (v := .bool true) rfl ?_ ?_; (· (go_simp; first | done | with_reducible rfl | rfl | omega | assumption | (simp; omega))); (try simp only [Act.put, aP, aZ, aS]))
    iterate 8 (refine pl_skip (by kernel_rfl) ?_; (try simp only [Act.put, aP, aZ, aS]))
    refine pl_take (v := .bool true) rfl ?_ ?_
    · (go_simp; first | done | with_reducible rfl | rfl | omega | assumption | (simp; omega))
    (try simp only [Act.put, aP, aZ, aS])
    refine pl_done ?_
    refine hK2.out _ _ ?_
    (try clear hK2 K2)
    refine wp_cond_true rfl ?_
    refine wk_seq (fun K3 hK3 => ?_)
    refine wk_reg ?_
    refine pl_take (v := ?_) rfl ?_ ?_
    rotate_left
    · (go_simp; first | done | with_reducible rfl | rfl | omega | assumption | (simp; omega))
    (try simp only [Act.put, aP, aZ, aS])
    refine pl_eff rfl (fun Kp hKp => ?_)
    (first | ((with_reducible apply st_storeAll); assumption; rfl; (go_simp; rfl); (repeat (first | with_reducible exact Out.here _ | apply Out.there)); rfl; (focus (first | (simp [Value.oneCell']; done) | (simp [Value.cells, Value.oneCell']; done))); rfl; intro wr2_1 hsr2_1; simp only [Value.cells] at hsr2_1) | ((with_reducible apply st_store); assumption; rfl; (go_simp; rfl); (repeat (first | with_reducible exact Out.here _ | apply Out.there)); rfl; (first | (focus (simp [Value.oneCell']; done)) | (simp [Value.cells, Value.oneCell'])); (first | (focus (simp; done)) | (simp [Value.cells])); intro wr2_1 hsr2_1; simp only [upd, Value.cells] at hsr2_1))
    refine hKp.out _ _ ?_
    clear hKp Kp
    (try dsimp only [Act.put])
    refine pl_take (v := .bool false) rfl ?_ ?_
    · (go_simp; first | done | with_reducible rfl | rfl | omega | assumption | (simp; omega))
    (try simp only [Act.put, aP, aZ, aS])
    refine pl_done ?_
    refine hK3.out _ _ ?_
    (try clear hK3 K3)
    refine wp_ret ?_
    ((try simp only [Exit.then]); refine retC1T rfl rfl (by assumption) (by (repeat (first | exact Out.here _ | apply Out.there))) (by simp) rfl rfl ?_)
    exact ⟨rfl, (by assumption : Sat w0 _ _).pick (by (repeat (first | exact Pick.nil _ | exact Pick.tail _ | exact Out.here _ | apply Out.there | apply Pick.cons | apply Pick.drop)))⟩
  · have k2 : b + (n : Int) < i := by omega
    go_enter Try.func44, Try.ntmps44
    refine wk_seq (fun K0 hK0 => ?_)
    refine wk_reg ?_
    refine pl_eff rfl (fun Kp hKp => ?_)
    ((with_reducible apply st_box); assumption; (go_simp; rfl); intro b2 w2 hs2; simp only [Value.cells] at hs2)
    refine hKp.out _ _ ?_
    clear hKp Kp
    (try simp only [Act.put, aP, aZ, aS])
    refine pl_eff rfl (fun Kp hKp => ?_)
    ((with_reducible apply st_alloc); assumption; intro b4 w4 hs4; simp only [Value.cells] at hs4)
    refine hKp.out _ _ ?_
    clear hKp Kp
    (try simp only [Act.put, aP, aZ, aS])
    refine pl_take (v := .bool false) rfl ?_ ?_
    · (go_simp; first | done | with_reducible rfl | rfl | omega | assumption | (simp; omega))
    (try simp only [Act.put, aP, aZ, aS])
    refine pl_done ?_
    refine hK0.out _ _ ?_
    (try clear hK0 K0)
    refine wk_seq (fun K1 hK1 => ?_)
    refine wk_seq (fun K2 hK2 => ?_)
    refine wk_reg ?_
    iterate 3 (refine pl_take (v := ?_) rfl ?_ ?_; rotate_left; (· (first | ((with_reducible apply yl_load); assumption; rfl; (repeat (first | with_reducible assumption | ((with_reducible apply Cl.own); exact rfl) | ((with_reducible apply Cl.blkL); exact rfl) | with_reducible apply Cl.cons)); rfl) | (go_simp; first | done | with_reducible rfl | rfl | omega | assumption | (simp; omega)))); (try simp only [Act.put, aP, aZ, aS]))
    iterate 2 (refine pl_take (v := .bool false) rfl ?_ ?_; (· (go_simp; first | done | with_reducible rfl | rfl | omega | assumption | (simp; omega))); (try simp only [Act.put, aP, aZ, aS]))
    iterate 7 (refine pl_take (v := ?_) (by kernel_rfl) ?_ ?_; rotate_left; (· (first | ((with_reducible apply yl_load); assumption; rfl; (repeat (first | with_reducible assumption | ((with_reducible apply Cl.own); exact rfl) | ((with_reducible apply Cl.blkL); exact rfl) | with_reducible apply Cl.cons)); rfl) | (go_simp; first | done | with_reducible rfl | rfl | omega | assumption | (simp; omega)))); (try simp only [Act.put, aP, aZ, aS]))
    refine pl_take (v := .bool true) (by kernel_rfl) ?_ ?_
    · (go_simp; first | done | with_reducible rfl | rfl | omega | assumption | (simp; omega))
    (try simp only [Act.put, aP, aZ, aS])
    refine pl_take (v := .bool true) rfl ?_ ?_
    · (go_simp; first | done | with_reducible rfl | rfl | omega | assumption | (simp; omega))
    (try simp only [Act.put, aP, aZ, aS])
    refine pl_done ?_
    refine hK2.out _ _ ?_
    (try clear hK2 K2)
    refine wp_cond_true rfl ?_
    refine wk_seq (fun K3 hK3 => ?_)
    refine wk_reg ?_
    refine pl_take (v := ?_) rfl ?_ ?_
    rotate_left
    · (go_simp; first | done | with_reducible rfl | rfl | omega | assumption | (simp; omega))
    (try simp only [Act.put, aP, aZ, aS])
    refine pl_eff rfl (fun Kp hKp => ?_)
    (first | ((with_reducible apply st_storeAll); assumption; rfl; (go_simp; rfl); (repeat (first | with_reducible exact Out.here _ | apply Out.there)); rfl; (focus (first | (simp [Value.oneCell']; done) | (simp [Value.cells, Value.oneCell']; done))); rfl; intro wr2_1 hsr2_1; simp only [Value.cells] at hsr2_1) | ((with_reducible apply st_store); assumption; rfl; (go_simp; rfl); (repeat (first | with_reducible exact Out.here _ | apply Out.there)); rfl; (first | (focus (simp [Value.oneCell']; done)) | (simp [Value.cells, Value.oneCell'])); (first | (focus (simp; done)) | (simp [Value.cells])); intro wr2_1 hsr2_1; simp only [upd, Value.cells] at hsr2_1))
    refine hKp.out _ _ ?_
    clear hKp Kp
    (try dsimp only [Act.put])
    refine pl_take (v := .bool false) rfl ?_ ?_
    · (go_simp; first | done | with_reducible rfl | rfl | omega | assumption | (simp; omega))
    (try simp only [Act.put, aP, aZ, aS])
    refine pl_done ?_
    refine hK3.out _ _ ?_
    (try clear hK3 K3)
    refine wp_ret ?_
    ((try simp only [Exit.then]); refine retC1T rfl rfl (by assumption) (by (repeat (first | exact Out.here _ | apply Out.there))) (by simp) rfl rfl ?_)
    exact ⟨rfl, (by assumption : Sat w0 _ _).pick (by (repeat (first | exact Pick.nil _ | exact Pick.tail _ | exact Out.here _ | apply Out.there | apply Pick.cons | apply Pick.drop)))⟩

theorem refDiffer_spec {w0 w : World} {L : List HP} {A B : Option Addr} {ca cb : Nat} (ab at_ : Int) (al : List Ent) (bb bt : Int) (bl : List Ent) (lim : Int)
    (ha0 : 0 ≤ ab) (ha1 : ab ≤ 549755813888) (hb0 : 0 ≤ bb) (hb1 : bb ≤ 549755813888) (hal : al.length ≤ 1048576) (hbl : bl.length ≤ 1048576) (hlA : lim ≤ ab + al.length) (hlB : lim ≤ bb + bl.length) (hs : Sat w0 w L)
    (hE : SlV EntV 4 (Rd w0 L) [.slice A al.length ca] al) (hE' : SlV EntV 4 (Rd w0 L) [.slice B bl.length cb] bl) :
    Calls Try.prog 45 #[.agg #[.int .i64 ab, .int .i64 at_, .slice A al.length ca], .agg #[.int .i64 bb, .int .i64 bt, .slice B bl.length cb], .int .i64 lim] w
      (fun e w' => e = .returned (.int .i64 (bothW stepD ⟨ab, at_, al⟩ ⟨bb, bt, bl⟩ lim 0)) ∧ Sat w0 w' L) := by
  obtain ⟨R, hR⟩ : ∃ R, bothW stepD ⟨ab, at_, al⟩ ⟨bb, bt, bl⟩ lim 0 = R := ⟨_, rfl⟩
  rw [hR]
  have HR := Hid.mk' hR
  clear hR
  obtain ⟨A', ca', vs, he1, hRv, hvl, hel⟩ := hE
  simp only [List.cons.injEq, Value.slice.injEq, and_true, true_and] at he1
  obtain ⟨rfl, rfl⟩ := he1
  obtain ⟨B', cb', vs', he2, hRv', hvl', hel'⟩ := hE'
  simp only [List.cons.injEq, Value.slice.injEq, and_true, true_and] at he2
  obtain ⟨rfl, rfl⟩ := he2
  obtain ⟨m, hm⟩ : ∃ m, (if ab < bb then bb else ab) = m := ⟨_, rfl⟩
  have g3 : ab ≤ m ∧ bb ≤ m ∧ (m = ab ∨ m = bb) := by rw [← hm]; split <;> omega
  have Hg : Hid (R = runW stepD ⟨ab, at_, al⟩ ⟨bb, bt, bl⟩ (lim + 1 - (m + 1)).toNat (m + 1) 0) := by
    unfold Hid; rw [← HR.out]
    have e1 : lo ⟨ab, at_, al⟩ ⟨bb, bt, bl⟩ = m := by unfold lo; simp only; omega
    have e2 : hi ⟨ab, at_, al⟩ ⟨bb, bt, bl⟩ lim = lim := by unfold hi lastV; simp only; omega
    unfold bothW
    rw [e1, e2, show lim + 1 - (m + 1) = lim - m from by omega]
  have hwm : IntKind.i64.wrap (m + 1) = m + 1 := IntWalk.i64_in _ (by omega)
  go_enter Try.func45, Try.ntmps45
  refine wk_seq (fun K0 hK0 => ?_)
  refine wk_reg ?_
  refine pl_eff rfl (fun Kp hKp => ?_)
  ((with_reducible apply st_box); assumption; (go_simp; rfl); intro b3 w3 hs3; simp only [Value.cells] at hs3)
  refine hKp.out _ _ ?_
  clear hKp Kp
  (try simp only [Act.put, aP, aZ, aS])
  refine pl_eff rfl (fun Kp hKp => ?_)
  ((with_reducible apply st_box); assumption; (go_simp; rfl); intro b4 w4 hs4; simp only [Value.cells] at hs4)
  refine hKp.out _ _ ?_
  clear hKp Kp
  (try simp only [Act.put, aP, aZ, aS])
  refine pl_take (v := ?_) rfl ?_ ?_
  rotate_left
  · (go_simp; first | done | with_reducible rfl | rfl | omega | assumption | (simp; omega))
  (try simp only [Act.put, aP, aZ, aS])
  refine pl_done ?_
  refine hK0.out _ _ ?_
  (try clear hK0 K0)
  refine wk_seq (fun K1 hK1 => ?_)
  refine wk_seq (fun K2 hK2 => ?_)
  refine wk_reg ?_
  iterate 7 (refine pl_take (v := ?_) rfl ?_ ?_; rotate_left; (· (first | ((with_reducible apply yl_load); assumption; rfl; (repeat (first | with_reducible assumption | ((with_reducible apply Cl.own); exact rfl) | ((with_reducible apply Cl.blkL); exact rfl) | with_reducible apply Cl.cons)); rfl) | (go_simp; first | done | with_reducible rfl | rfl | omega | assumption | (simp; omega)))); (try simp only [Act.put, aP, aZ, aS]))
  refine pl_done ?_
  refine hK2.out _ _ ?_
  (try clear hK2 K2)
  refine wp_block ?_
  -- at a loop
  clear hm
  go_loopw [7] (fun s7 wr => ∃ (i : Int), s7 = .int .i64 i ∧ m + 1 ≤ i ∧ Hid (R = runW stepD ⟨ab, at_, al⟩ ⟨bb, bt, bl⟩ (lim + 1 - i).toNat i 0) ∧ Sat w0 wr (blk b3 (.cells #[.int .i64 ab, .int .i64 at_, .slice A al.length ca] 30 (0, 0)) :: blk b4 (.cells #[.int .i64 bb, .int .i64 bt, .slice B bl.length cb] 30 (0, 0)) :: L)) (fun s7 _ => (lim + 1 - intOf s7).toNat)
  case atStart => exact ⟨m + 1, rfl, by omega, Hg, (by assumption : Sat w0 _ _).pick (by (repeat (first | exact Pick.nil _ | exact Pick.tail _ | exact Out.here _ | apply Out.there | apply Pick.cons | apply Pick.drop)))⟩
  case round =>
    obtain ⟨i, rfl, hi1, Hi, hsC⟩ := hrel
    clear Hg
    by_cases hlt : i ≤ lim
    · obtain ⟨ka, hka⟩ : ∃ ka : Nat, i = ab + 1 + ka := ⟨(i - ab - 1).toNat, by omega⟩
      obtain ⟨kb, hkb⟩ : ∃ kb : Nat, i = bb + 1 + kb := ⟨(i - bb - 1).toNat, by omega⟩
      have hla : ka < al.length := by omega
      have hlb : kb < bl.length := by omega
      obtain ⟨x, hx⟩ : ∃ x, al[ka]? = some x := ⟨al[ka], List.getElem?_eq_getElem hla⟩
      obtain ⟨y, hy⟩ : ∃ y, bl[kb]? = some y := ⟨bl[kb], List.getElem?_eq_getElem hlb⟩
      obtain ⟨⟨Ax, cx, ex, hrx⟩, _⟩ := hel ka x hx
      obtain ⟨⟨Ay, cy, ey, hry⟩, _⟩ := hel' kb y hy
      obtain ⟨ga, oa, rfl⟩ := hRv.some_of hs (by omega)
      obtain ⟨gb, ob, rfl⟩ := hRv'.some_of hs (by omega)
      have hrow := hRv.row_at ka hla
      have hrow' := hRv'.row_at kb hlb
      rw [ex] at hrow
      rw [ey] at hrow'
      have hAt := fun (w : World) (L' : List HP) (hs : Sat w0 w L') (hp : Pick L' L) => refAt_in (ca := ca) ab at_ al.length ka x ha0 ha1 hal hla hs (fun w h => hrow w (h.pick hp)) i hka
      have hAt' := fun (w : World) (L' : List HP) (hs : Sat w0 w L') (hp : Pick L' L) => refAt_in (ca := cb) bb bt bl.length kb y hb0 hb1 hbl hlb hs (fun w h => hrow' w (h.pick hp)) i hkb
      have Hn : Hid (R = if alike x y then runW stepD ⟨ab, at_, al⟩ ⟨bb, bt, bl⟩ (lim + 1 - (i + 1)).toNat (i + 1) 0 else i) := by
        unfold Hid; rw [Hi.out, show (lim + 1 - i).toNat = (lim + 1 - (i + 1)).toNat + 1 from by omega]
        rw [runW_at (x := x) (y := y) (by simp only; rw [show (i - ab - 1).toNat = ka from by omega]; exact hx) (by simp only; rw [show (i - bb - 1).toNat = kb from by omega]; exact hy)]
        unfold stepD
        cases alike x y <;> rfl
      have hwk : IntKind.i64.wrap (i + 1) = i + 1 := IntWalk.i64_in _ (by omega)
      obtain ⟨et, ei, q, d⟩ := x
      obtain ⟨et', ei', q', d'⟩ := y
      simp only at hrx hry hAt hAt'
      have Hka := Hid.mk' hka
      have Hkb := Hid.mk' hkb
      clear ex ey hel hel' hx hy hka hkb hrow hrow'
      by_cases k1 : et = et'
      · subst k1
        by_cases k2 : q = q'
        · subst k2
          by_cases k3 : d = d'
          · subst k3
            have Hm : Hid (R = runW stepD ⟨ab, at_, al⟩ ⟨bb, bt, bl⟩ (lim + 1 - (i + 1)).toNat (i + 1) 0) := by unfold Hid; rw [Hn.out]; simp [alike]
            refine wk_seq (fun K3 hK3 => ?_)
            refine wk_seq (fun K4 hK4 => ?_)
            refine wk_reg ?_
            iterate 2 (refine pl_take (v := ?_) rfl ?_ ?_; rotate_left; (· (go_simp; first | done | with_reducible rfl | rfl | omega | assumption | (simp; omega))); (try simp only [Act.put, aP, aZ, aS]))
            refine pl_take (v := .bool true) rfl ?_ ?_
            · (go_simp; first | done | with_reducible rfl | rfl | omega | assumption | (simp; omega))
            (try simp only [Act.put, aP, aZ, aS])
            refine pl_done ?_
            refine hK4.out _ _ ?_
            (try clear hK4 K4)
            refine wp_cond_true rfl ?_
            refine wp_skip ?_
            refine hK3.out _ _ ?_
            (try clear hK3 K3)
            refine wk_seq (fun K5 hK5 => ?_)
            refine wp_block ?_
            refine wk_seq (fun K6 hK6 => ?_)
            refine wk_reg ?_
            iterate 2 (refine pl_take (v := ?_) rfl ?_ ?_; rotate_left; (· (first | (first | ((with_reducible apply yl_loadAgg); assumption; rfl; (repeat (first | with_reducible exact Out.here _ | apply Out.there)); (simp); rfl; rfl) | ((with_reducible apply yl_loadAggR); assumption; rfl; (repeat (first | with_reducible assumption | with_reducible exact Rd.own | with_reducible exact Rd.nil | with_reducible apply Rd.cons)); rfl)) | (go_simp; first | done | with_reducible rfl | rfl | omega | assumption | (simp; omega)))); (try simp only [Act.put, aP, aZ, aS]))
            refine pl_eff rfl (fun Kp hKp => ?_)
            go_simp
            (refine (hAt _ _ (by assumption) (by (repeat (first | exact Pick.nil _ | exact Pick.tail _ | exact Out.here _ | apply Out.there | apply Pick.cons | apply Pick.drop)))).mono ?_; rintro e26 w26 ⟨rfl, hs26⟩)
            (try go_wp2_with fail)
            refine hKp.out _ _ ?_
            clear hKp Kp
            (try simp only [Act.put, aP, aZ, aS])
            iterate 3 (refine pl_take (v := ?_) rfl ?_ ?_; rotate_left; (· (go_simp; first | done | with_reducible rfl | rfl | omega | assumption | (simp; omega))); (try simp only [Act.put, aP, aZ, aS]))
            refine pl_eff rfl (fun Kp hKp => ?_)
            ((with_reducible apply st_alloc); assumption; intro b8 w8 hs8; simp only [Value.cells] at hs8)
            refine hKp.out _ _ ?_
            clear hKp Kp
            (try simp only [Act.put, aP, aZ, aS])
            refine pl_eff rfl (fun Kp hKp => ?_)
            (first | ((with_reducible apply st_storeAll); assumption; rfl; (go_simp; rfl); (repeat (first | with_reducible exact Out.here _ | apply Out.there)); rfl; (focus (first | (simp [Value.oneCell']; done) | (simp [Value.cells, Value.oneCell']; done))); rfl; intro wr4_7 hsr4_7; simp only [Value.cells] at hsr4_7) | ((with_reducible apply st_store); assumption; rfl; (go_simp; rfl); (repeat (first | with_reducible exact Out.here _ | apply Out.there)); rfl; (first | (focus (simp [Value.oneCell']; done)) | (simp [Value.cells, Value.oneCell'])); (first | (focus (simp; done)) | (simp [Value.cells])); intro wr4_7 hsr4_7; simp only [upd, Value.cells] at hsr4_7))
            refine hKp.out _ _ ?_
            clear hKp Kp
            (try dsimp only [Act.put])
            refine pl_take (v := ?_) rfl ?_ ?_
            rotate_left
            · (go_simp; first | done | with_reducible rfl | rfl | omega | assumption | (simp; omega))
            (try simp only [Act.put, aP, aZ, aS])
            refine pl_done ?_
            refine hK6.out _ _ ?_
            (try clear hK6 K6)
            refine wk_seq (fun K7 hK7 => ?_)
            refine wk_reg ?_
            iterate 2 (refine pl_take (v := ?_) rfl ?_ ?_; rotate_left; (· (first | (first | ((with_reducible apply yl_loadAgg); assumption; rfl; (repeat (first | with_reducible exact Out.here _ | apply Out.there)); (simp); rfl; rfl) | ((with_reducible apply yl_loadAggR); assumption; rfl; (repeat (first | with_reducible assumption | with_reducible exact Rd.own | with_reducible exact Rd.nil | with_reducible apply Rd.cons)); rfl)) | (go_simp; first | done | with_reducible rfl | rfl | omega | assumption | (simp; omega)))); (try simp only [Act.put, aP, aZ, aS]))
            refine pl_eff rfl (fun Kp hKp => ?_)
            go_simp
            (refine (hAt' _ _ (by assumption) (by (repeat (first | exact Pick.nil _ | exact Pick.tail _ | exact Out.here _ | apply Out.there | apply Pick.cons | apply Pick.drop)))).mono ?_; rintro e32 w32 ⟨rfl, hs32⟩)
            (try go_wp2_with fail)
            refine hKp.out _ _ ?_
            clear hKp Kp
            (try simp only [Act.put, aP, aZ, aS])
            iterate 3 (refine pl_take (v := ?_) rfl ?_ ?_; rotate_left; (· (go_simp; first | done | with_reducible rfl | rfl | omega | assumption | (simp; omega))); (try simp only [Act.put, aP, aZ, aS]))
            refine pl_eff rfl (fun Kp hKp => ?_)
            ((with_reducible apply st_alloc); assumption; intro b10 w10 hs10; simp only [Value.cells] at hs10)
            refine hKp.out _ _ ?_
            clear hKp Kp
            (try simp only [Act.put, aP, aZ, aS])
            refine pl_eff rfl (fun Kp hKp => ?_)
            (first | ((with_reducible apply st_storeAll); assumption; rfl; (go_simp; rfl); (repeat (first | with_reducible exact Out.here _ | apply Out.there)); rfl; (focus (first | (simp [Value.oneCell']; done) | (simp [Value.cells, Value.oneCell']; done))); rfl; intro wr5_7 hsr5_7; simp only [Value.cells] at hsr5_7) | ((with_reducible apply st_store); assumption; rfl; (go_simp; rfl); (repeat (first | with_reducible exact Out.here _ | apply Out.there)); rfl; (first | (focus (simp [Value.oneCell']; done)) | (simp [Value.cells, Value.oneCell'])); (first | (focus (simp; done)) | (simp [Value.cells])); intro wr5_7 hsr5_7; simp only [upd, Value.cells] at hsr5_7))
            refine hKp.out _ _ ?_
            clear hKp Kp
            (try dsimp only [Act.put])
            refine pl_take (v := ?_) rfl ?_ ?_
            rotate_left
            · (go_simp; first | done | with_reducible rfl | rfl | omega | assumption | (simp; omega))
            (try simp only [Act.put, aP, aZ, aS])
            refine pl_done ?_
            refine hK7.out _ _ ?_
            (try clear hK7 K7)
            refine wk_seq (fun K8 hK8 => ?_)
            refine wk_reg ?_
            refine pl_take (v := ?_) rfl ?_ ?_
            rotate_left
            · (go_simp; first | done | with_reducible rfl | rfl | omega | assumption | (simp; omega))
            (try simp only [Act.put, aP, aZ, aS])
            refine pl_take (v := .bool true) rfl ?_ ?_
            · (go_simp; first | done | with_reducible rfl | rfl | omega | assumption | (simp; omega))
            (try simp only [Act.put, aP, aZ, aS])
            refine pl_take (v := .bool true) (by kernel_rfl) ?_ ?_
            · (go_simp; first | done | with_reducible rfl | rfl | omega | assumption | (simp; omega))
            (try simp only [Act.put, aP, aZ, aS])
            iterate 2 (refine pl_take (v := .bool true) rfl ?_ ?_; (· (go_simp; first | done | with_reducible rfl | rfl | omega | assumption | (simp; omega))); (try simp only [Act.put, aP, aZ, aS]))
            iterate 4 (refine pl_take (v := ?_) (by kernel_rfl) ?_ ?_; rotate_left; (· (first | ((with_reducible apply yl_load); assumption; rfl; (repeat (first | with_reducible assumption | ((with_reducible apply Cl.own); exact rfl) | ((with_reducible apply Cl.blkL); exact rfl) | with_reducible apply Cl.cons)); rfl) | (go_simp; first | done | with_reducible rfl | rfl | omega | assumption | (simp; omega)))); (try simp only [Act.put, aP, aZ, aS]))
            iterate 2 (refine pl_take (v := .bool false) (by kernel_rfl) ?_ ?_; (· (go_simp; first | done | with_reducible rfl | rfl | omega | assumption | (simp; omega))); (try simp only [Act.put, aP, aZ, aS]))
            iterate 4 (refine pl_take (v := ?_) (by kernel_rfl) ?_ ?_; rotate_left; (· (first | ((with_reducible apply yl_load); assumption; rfl; (repeat (first | with_reducible assumption | ((with_reducible apply Cl.own); exact rfl) | ((with_reducible apply Cl.blkL); exact rfl) | with_reducible apply Cl.cons)); rfl) | (go_simp; first | done | with_reducible rfl | rfl | omega | assumption | (simp; omega)))); (try simp only [Act.put, aP, aZ, aS]))
            iterate 3 (refine pl_take (v := .bool false) (by kernel_rfl) ?_ ?_; (· (go_simp; first | done | with_reducible rfl | rfl | omega | assumption | (simp; omega))); (try simp only [Act.put, aP, aZ, aS]))
            iterate 6 (refine pl_take (v := ?_) (by kernel_rfl) ?_ ?_; rotate_left; (· (first | ((with_reducible apply yl_load); assumption; rfl; (repeat (first | with_reducible assumption | ((with_reducible apply Cl.own); exact rfl) | ((with_reducible apply Cl.blkL); exact rfl) | with_reducible apply Cl.cons)); rfl) | (first | ((with_reducible apply yl_b2s); assumption; rfl; (repeat (first | with_reducible assumption | with_reducible exact Rd.own | with_reducible exact Rd.nil | with_reducible apply Rd.cons)); rfl) | (go_simp; first | done | with_reducible rfl | rfl | omega | assumption | (simp; omega))) | (go_simp; first | done | with_reducible rfl | rfl | omega | assumption | (simp; omega)))); (try simp only [Act.put, aP, aZ, aS]))
            iterate 2 (refine pl_take (v := .bool false) (by kernel_rfl) ?_ ?_; (· (go_simp; first | done | with_reducible rfl | rfl | omega | assumption | (simp; omega))); (try simp only [Act.put, aP, aZ, aS]))
            refine pl_take (v := .bool false) rfl ?_ ?_
            · (go_simp; first | done | with_reducible rfl | rfl | omega | assumption | (simp; omega))
            (try simp only [Act.put, aP, aZ, aS])
            refine pl_done ?_
            refine hK8.out _ _ ?_
            (try clear hK8 K8)
            refine wp_cond_false rfl ?_
            refine wp_skip ?_
            refine hK5.out _ _ ?_
            (try clear hK5 K5)
            refine wk_reg ?_
            iterate 3 (refine pl_take (v := ?_) rfl ?_ ?_; rotate_left; (· (go_simp; first | done | with_reducible rfl | rfl | omega | assumption | (simp; omega))); (try simp only [Act.put, aP, aZ, aS]))
            refine pl_done ?_
            dsimp only [Exit.then]
            go_roundw
            case rel => exact ⟨i + 1, by go_num, by omega, Hm, (by assumption : Sat w0 _ _).pick (by (repeat (first | exact Pick.nil _ | exact Pick.tail _ | exact Out.here _ | apply Out.there | apply Pick.cons | apply Pick.drop)))⟩
            case measure => simp [intOf]; omega
          · obtain rfl : R = i := by rw [Hn.out]; simp [alike, k3]
            have k4 : (d != d') = true := by simp [k3]
            have k5 : (d == d') = false := by simp [k3]
            refine wk_seq (fun K3 hK3 => ?_)
            refine wk_seq (fun K4 hK4 => ?_)
            refine wk_reg ?_
            iterate 2 (refine pl_take (v := ?_) rfl ?_ ?_; rotate_left; (· (go_simp; first | done | with_reducible rfl | rfl | omega | assumption | (simp; omega))); (try simp only [Act.put, aP, aZ, aS]))
            refine pl_take (v := .bool true) rfl ?_ ?_
            · (go_simp; first | done | with_reducible rfl | rfl | omega | assumption | (simp; omega))
            (try simp only [Act.put, aP, aZ, aS])
            refine pl_done ?_
            refine hK4.out _ _ ?_
            (try clear hK4 K4)
            refine wp_cond_true rfl ?_
            refine wp_skip ?_
            refine hK3.out _ _ ?_
            (try clear hK3 K3)
            refine wk_seq (fun K5 hK5 => ?_)
            refine wp_block ?_
            refine wk_seq (fun K6 hK6 => ?_)
            refine wk_reg ?_
            iterate 2 (refine pl_take (v := ?_) rfl ?_ ?_; rotate_left; (· (first | (first | ((with_reducible apply yl_loadAgg); assumption; rfl; (repeat (first | with_reducible exact Out.here _ | apply Out.there)); (simp); rfl; rfl) | ((with_reducible apply yl_loadAggR); assumption; rfl; (repeat (first | with_reducible assumption | with_reducible exact Rd.own | with_reducible exact Rd.nil | with_reducible apply Rd.cons)); rfl)) | (go_simp; first | done | with_reducible rfl | rfl | omega | assumption | (simp; omega)))); (try simp only [Act.put, aP, aZ, aS]))
            refine pl_eff rfl (fun Kp hKp => ?_)
            go_simp
            (refine (hAt _ _ (by assumption) (by (repeat (first | exact Pick.nil _ | exact Pick.tail _ | exact Out.here _ | apply Out.there | apply Pick.cons | apply Pick.drop)))).mono ?_; rintro e26 w26 ⟨rfl, hs26⟩)
            (try go_wp2_with fail)
            refine hKp.out _ _ ?_
            clear hKp Kp
            (try simp only [Act.put, aP, aZ, aS])
            iterate 3 (refine pl_take (v := ?_) rfl ?_ ?_; rotate_left; (· (go_simp; first | done | with_reducible rfl | rfl | omega | assumption | (simp; omega))); (try simp only [Act.put, aP, aZ, aS]))
            refine pl_eff rfl (fun Kp hKp => ?_)
            ((with_reducible apply st_alloc); assumption; intro b8 w8 hs8; simp only [Value.cells] at hs8)
            refine hKp.out _ _ ?_
            clear hKp Kp
            (try simp only [Act.put, aP, aZ, aS])
            refine pl_eff rfl (fun Kp hKp => ?_)
            (first | ((with_reducible apply st_storeAll); assumption; rfl; (go_simp; rfl); (repeat (first | with_reducible exact Out.here _ | apply Out.there)); rfl; (focus (first | (simp [Value.oneCell']; done) | (simp [Value.cells, Value.oneCell']; done))); rfl; intro wr4_7 hsr4_7; simp only [Value.cells] at hsr4_7) | ((with_reducible apply st_store); assumption; rfl; (go_simp; rfl); (repeat (first | with_reducible exact Out.here _ | apply Out.there)); rfl; (first | (focus (simp [Value.oneCell']; done)) | (simp [Value.cells, Value.oneCell'])); (first | (focus (simp; done)) | (simp [Value.cells])); intro wr4_7 hsr4_7; simp only [upd, Value.cells] at hsr4_7))
            refine hKp.out _ _ ?_
            clear hKp Kp
            (try dsimp only [Act.put])
            refine pl_take (v := ?_) rfl ?_ ?_
            rotate_left
            · (go_simp; first | done | with_reducible rfl | rfl | omega | assumption | (simp; omega))
            (try simp only [Act.put, aP, aZ, aS])
            refine pl_done ?_
            refine hK6.out _ _ ?_
            (try clear hK6 K6)
            refine wk_seq (fun K7 hK7 => ?_)
            refine wk_reg ?_
            iterate 2 (refine pl_take (v := ?_) rfl ?_ ?_; rotate_left; (· (first | (first | ((with_reducible apply yl_loadAgg); assumption; rfl; (repeat (first | with_reducible exact Out.here _ | apply Out.there)); (simp); rfl; rfl) | ((with_reducible apply yl_loadAggR); assumption; rfl; (repeat (first | with_reducible assumption | with_reducible exact Rd.own | with_reducible exact Rd.nil | with_reducible apply Rd.cons)); rfl)) | (go_simp; first | done | with_reducible rfl | rfl | omega | assumption | (simp; omega)))); (try simp only [Act.put, aP, aZ, aS]))
            refine pl_eff rfl (fun Kp hKp => ?_)
            go_simp
            (refine (hAt' _ _ (by assumption) (by (repeat (first | exact Pick.nil _ | exact Pick.tail _ | exact Out.here _ | apply Out.there | apply Pick.cons | apply Pick.drop)))).mono ?_; rintro e32 w32 ⟨rfl, hs32⟩)
            (try go_wp2_with fail)
            refine hKp.out _ _ ?_
            clear hKp Kp
            (try simp only [Act.put, aP, aZ, aS])
            iterate 3 (refine pl_take (v := ?_) rfl ?_ ?_; rotate_left; (· (go_simp; first | done | with_reducible rfl | rfl | omega | assumption | (simp; omega))); (try simp only [Act.put, aP, aZ, aS]))
            refine pl_eff rfl (fun Kp hKp => ?_)
            ((with_reducible apply st_alloc); assumption; intro b10 w10 hs10; simp only [Value.cells] at hs10)
            refine hKp.out _ _ ?_
            clear hKp Kp
            (try simp only [Act.put, aP, aZ, aS])
            refine pl_eff rfl (fun Kp hKp => ?_)
            (first | ((with_reducible apply st_storeAll); assumption; rfl; (go_simp; rfl); (repeat (first | with_reducible exact Out.here _ | apply Out.there)); rfl; (focus (first | (simp [Value.oneCell']; done) | (simp [Value.cells, Value.oneCell']; done))); rfl; intro wr5_7 hsr5_7; simp only [Value.cells] at hsr5_7) | ((with_reducible apply st_store); assumption; rfl; (go_simp; rfl); (repeat (first | with_reducible exact Out.here _ | apply Out.there)); rfl; (first | (focus (simp [Value.oneCell']; done)) | (simp [Value.cells, Value.oneCell'])); (first | (focus (simp; done)) | (simp [Value.cells])); intro wr5_7 hsr5_7; simp only [upd, Value.cells] at hsr5_7))
            refine hKp.out _ _ ?_
            clear hKp Kp
            (try dsimp only [Act.put])
            refine pl_take (v := ?_) rfl ?_ ?_
            rotate_left
            · (go_simp; first | done | with_reducible rfl | rfl | omega | assumption | (simp; omega))
            (try simp only [Act.put, aP, aZ, aS])
            refine pl_done ?_
            refine hK7.out _ _ ?_
            (try clear hK7 K7)
            refine wk_seq (fun K8 hK8 => ?_)
            refine wk_reg ?_
            refine pl_take (v := ?_) rfl ?_ ?_
            rotate_left
            · (go_simp; first | done | with_reducible rfl | rfl | omega | assumption | (simp; omega))
            (try simp only [Act.put, aP, aZ, aS])
            refine pl_take (v := .bool true) rfl ?_ ?_
            · (go_simp; first | done | with_reducible rfl | rfl | omega | assumption | (simp; omega))
            (try simp only [Act.put, aP, aZ, aS])
            refine pl_take (v := .bool true) (by kernel_rfl) ?_ ?_
            · (go_simp; first | done | with_reducible rfl | rfl | omega | assumption | (simp; omega))
            (try simp only [Act.put, aP, aZ, aS])
            iterate 2 (refine pl_take (v := .bool true) rfl ?_ ?_; (· (go_simp; first | done | with_reducible rfl | rfl | omega | assumption | (simp; omega))); (try simp only [Act.put, aP, aZ, aS]))
            iterate 4 (refine pl_take (v := ?_) (by kernel_rfl) ?_ ?_; rotate_left; (· (first | ((with_reducible apply yl_load); assumption; rfl; (repeat (first | with_reducible assumption | ((with_reducible apply Cl.own); exact rfl) | ((with_reducible apply Cl.blkL); exact rfl) | with_reducible apply Cl.cons)); rfl) | (go_simp; first | done | with_reducible rfl | rfl | omega | assumption | (simp; omega)))); (try simp only [Act.put, aP, aZ, aS]))
            iterate 2 (refine pl_take (v := .bool false) (by kernel_rfl) ?_ ?_; (· (go_simp; first | done | with_reducible rfl | rfl | omega | assumption | (simp; omega))); (try simp only [Act.put, aP, aZ, aS]))
            iterate 4 (refine pl_take (v := ?_) (by kernel_rfl) ?_ ?_; rotate_left; (· (first | ((with_reducible apply yl_load); assumption; rfl; (repeat (first | with_reducible assumption | ((with_reducible apply Cl.own); exact rfl) | ((with_reducible apply Cl.blkL); exact rfl) | with_reducible apply Cl.cons)); rfl) | (go_simp; first | done | with_reducible rfl | rfl | omega | assumption | (simp; omega)))); (try simp only [Act.put, aP, aZ, aS]))
            iterate 3 (refine pl_take (v := .bool false) (by kernel_rfl) ?_ ?_; (· (go_simp; first | done | with_reducible rfl | rfl | omega | assumption | (simp; omega))); (try simp only [Act.put, aP, aZ, aS]))
            iterate 6 (refine pl_take (v := ?_) (by kernel_rfl) ?_ ?_; rotate_left; (· (first | ((with_reducible apply yl_load); assumption; rfl; (repeat (first | with_reducible assumption | ((with_reducible apply Cl.own); exact rfl) | ((with_reducible apply Cl.blkL); exact rfl) | with_reducible apply Cl.cons)); rfl) | (first | ((with_reducible apply yl_b2s); assumption; rfl; (repeat (first | with_reducible assumption | with_reducible exact Rd.own | with_reducible exact Rd.nil | with_reducible apply Rd.cons)); rfl) | (go_simp; first | done | with_reducible rfl | rfl | omega | assumption | (simp; omega))) | (go_simp; first | done | with_reducible rfl | rfl | omega | assumption | (simp; omega)))); (try simp only [Act.put, aP, aZ, aS]))
            iterate 2 (refine pl_take (v := .bool true) (by kernel_rfl) ?_ ?_; (· (go_simp; first | done | with_reducible rfl | rfl | omega | assumption | (simp; omega))); (try simp only [Act.put, aP, aZ, aS]))
            refine pl_take (v := .bool true) rfl ?_ ?_
            · (go_simp; first | done | with_reducible rfl | rfl | omega | assumption | (simp; omega))
            (try simp only [Act.put, aP, aZ, aS])
            refine pl_done ?_
            refine hK8.out _ _ ?_
            (try clear hK8 K8)
            refine wp_cond_true rfl ?_
            refine wk_seq (fun K9 hK9 => ?_)
            refine wk_reg ?_
            iterate 2 (refine pl_take (v := ?_) rfl ?_ ?_; rotate_left; (· (go_simp; first | done | with_reducible rfl | rfl | omega | assumption | (simp; omega))); (try simp only [Act.put, aP, aZ, aS]))
            refine pl_done ?_
            refine hK9.out _ _ ?_
            (try clear hK9 K9)
            refine wp_ret ?_
            go_ret
            exact ⟨rfl, (by assumption : Sat w0 _ _).pick (by (repeat (first | exact Pick.nil _ | exact Pick.tail _ | exact Out.here _ | apply Out.there | apply Pick.cons | apply Pick.drop)))⟩
        · obtain rfl : R = i := by rw [Hn.out]; simp [alike, k2]
          have k4 : (q != q') = true := by simp [k2]
          clear k2
          refine wk_seq (fun K3 hK3 => ?_)
          refine wk_seq (fun K4 hK4 => ?_)
          refine wk_reg ?_
          iterate 2 (refine pl_take (v := ?_) rfl ?_ ?_; rotate_left; (· (go_simp; first | done | with_reducible rfl | rfl | omega | assumption | (simp; omega))); (try simp only [Act.put, aP, aZ, aS]))
          refine pl_take (v := .bool true) rfl ?_ ?_
          · (go_simp; first | done | with_reducible rfl | rfl | omega | assumption | (simp; omega))
          (try simp only [Act.put, aP, aZ, aS])
          refine pl_done ?_
          refine hK4.out _ _ ?_
          (try clear hK4 K4)
          refine wp_cond_true rfl ?_
          refine wp_skip ?_
          refine hK3.out _ _ ?_
          (try clear hK3 K3)
          refine wk_seq (fun K5 hK5 => ?_)
          refine wp_block ?_
          refine wk_seq (fun K6 hK6 => ?_)
          refine wk_reg ?_
          iterate 2 (refine pl_take (v := ?_) rfl ?_ ?_; rotate_left; (· (first | (first | ((with_reducible apply yl_loadAgg); assumption; rfl; (repeat (first | with_reducible exact Out.here _ | apply Out.there)); (simp); rfl; rfl) | ((with_reducible apply yl_loadAggR); assumption; rfl; (repeat (first | with_reducible assumption | with_reducible exact Rd.own | with_reducible exact Rd.nil | with_reducible apply Rd.cons)); rfl)) | (go_simp; first | done | with_reducible rfl | rfl | omega | assumption | (simp; omega)))); (try simp only [Act.put, aP, aZ, aS]))
          refine pl_eff rfl (fun Kp hKp => ?_)
          go_simp
          (refine (hAt _ _ (by assumption) (by (repeat (first | exact Pick.nil _ | exact Pick.tail _ | exact Out.here _ | apply Out.there | apply Pick.cons | apply Pick.drop)))).mono ?_; rintro e26 w26 ⟨rfl, hs26⟩)
          (try go_wp2_with fail)
          refine hKp.out _ _ ?_
          clear hKp Kp
          (try simp only [Act.put, aP, aZ, aS])
          iterate 3 (refine pl_take (v := ?_) rfl ?_ ?_; rotate_left; (· (go_simp; first | done | with_reducible rfl | rfl | omega | assumption | (simp; omega))); (try simp only [Act.put, aP, aZ, aS]))
          refine pl_eff rfl (fun Kp hKp => ?_)
          ((with_reducible apply st_alloc); assumption; intro b8 w8 hs8; simp only [Value.cells] at hs8)
          refine hKp.out _ _ ?_
          clear hKp Kp
          (try simp only [Act.put, aP, aZ, aS])
          refine pl_eff rfl (fun Kp hKp => ?_)
          (first | ((with_reducible apply st_storeAll); assumption; rfl; (go_simp; rfl); (repeat (first | with_reducible exact Out.here _ | apply Out.there)); rfl; (focus (first | (simp [Value.oneCell']; done) | (simp [Value.cells, Value.oneCell']; done))); rfl; intro wr4_7 hsr4_7; simp only [Value.cells] at hsr4_7) | ((with_reducible apply st_store); assumption; rfl; (go_simp; rfl); (repeat (first | with_reducible exact Out.here _ | apply Out.there)); rfl; (first | (focus (simp [Value.oneCell']; done)) | (simp [Value.cells, Value.oneCell'])); (first | (focus (simp; done)) | (simp [Value.cells])); intro wr4_7 hsr4_7; simp only [upd, Value.cells] at hsr4_7))
          refine hKp.out _ _ ?_
          clear hKp Kp
          (try dsimp only [Act.put])
          refine pl_take (v := ?_) rfl ?_ ?_
          rotate_left
          · (go_simp; first | done | with_reducible rfl | rfl | omega | assumption | (simp; omega))
          (try simp only [Act.put, aP, aZ, aS])
          refine pl_done ?_
          refine hK6.out _ _ ?_
          (try clear hK6 K6)
          refine wk_seq (fun K7 hK7 => ?_)
          refine wk_reg ?_
          iterate 2 (refine pl_take (v := ?_) rfl ?_ ?_; rotate_left; (· (first | (first | ((with_reducible apply yl_loadAgg); assumption; rfl; (repeat (first | with_reducible exact Out.here _ | apply Out.there)); (simp); rfl; rfl) | ((with_reducible apply yl_loadAggR); assumption; rfl; (repeat (first | with_reducible assumption | with_reducible exact Rd.own | with_reducible exact Rd.nil | with_reducible apply Rd.cons)); rfl)) | (go_simp; first | done | with_reducible rfl | rfl | omega | assumption | (simp; omega)))); (try simp only [Act.put, aP, aZ, aS]))
          refine pl_eff rfl (fun Kp hKp => ?_)
          go_simp
          (refine (hAt' _ _ (by assumption) (by (repeat (first | exact Pick.nil _ | exact Pick.tail _ | exact Out.here _ | apply Out.there | apply Pick.cons | apply Pick.drop)))).mono ?_; rintro e32 w32 ⟨rfl, hs32⟩)
          (try go_wp2_with fail)
          refine hKp.out _ _ ?_
          clear hKp Kp
          (try simp only [Act.put, aP, aZ, aS])
          iterate 3 (refine pl_take (v := ?_) rfl ?_ ?_; rotate_left; (· (go_simp; first | done | with_reducible rfl | rfl | omega | assumption | (simp; omega))); (try simp only [Act.put, aP, aZ, aS]))
          refine pl_eff rfl (fun Kp hKp => ?_)
          ((with_reducible apply st_alloc); assumption; intro b10 w10 hs10; simp only [Value.cells] at hs10)
          refine hKp.out _ _ ?_
          clear hKp Kp
          (try simp only [Act.put, aP, aZ, aS])
          refine pl_eff rfl (fun Kp hKp => ?_)
          (first | ((with_reducible apply st_storeAll); assumption; rfl; (go_simp; rfl); (repeat (first | with_reducible exact Out.here _ | apply Out.there)); rfl; (focus (first | (simp [Value.oneCell']; done) | (simp [Value.cells, Value.oneCell']; done))); rfl; intro wr5_7 hsr5_7; simp only [Value.cells] at hsr5_7) | ((with_reducible apply st_store); assumption; rfl; (go_simp; rfl); (repeat (first | with_reducible exact Out.here _ | apply Out.there)); rfl; (first | (focus (simp [Value.oneCell']; done)) | (simp [Value.cells, Value.oneCell'])); (first | (focus (simp; done)) | (simp [Value.cells])); intro wr5_7 hsr5_7; simp only [upd, Value.cells] at hsr5_7))
          refine hKp.out _ _ ?_
          clear hKp Kp
          (try dsimp only [Act.put])
          refine pl_take (v := ?_) rfl ?_ ?_
          rotate_left
          · (go_simp; first | done | with_reducible rfl | rfl | omega | assumption | (simp; omega))
          (try simp only [Act.put, aP, aZ, aS])
          refine pl_done ?_
          refine hK7.out _ _ ?_
          (try clear hK7 K7)
          refine wk_seq (fun K8 hK8 => ?_)
          refine wk_reg ?_
          refine pl_take (v := ?_) rfl ?_ ?_
          rotate_left
          · (go_simp; first | done | with_reducible rfl | rfl | omega | assumption | (simp; omega))
          (try simp only [Act.put, aP, aZ, aS])
          refine pl_take (v := .bool true) rfl ?_ ?_
          · (go_simp; first | done | with_reducible rfl | rfl | omega | assumption | (simp; omega))
          (try simp only [Act.put, aP, aZ, aS])
          refine pl_take (v := .bool true) (by kernel_rfl) ?_ ?_
          · (go_simp; first | done | with_reducible rfl | rfl | omega | assumption | (simp; omega))
          (try simp only [Act.put, aP, aZ, aS])
          iterate 2 (refine pl_take (v := .bool true) rfl ?_ ?_; (· (go_simp; first | done | with_reducible rfl | rfl | omega | assumption | (simp; omega))); (try simp only [Act.put, aP, aZ, aS]))
          iterate 4 (refine pl_take (v := ?_) (by kernel_rfl) ?_ ?_; rotate_left; (· (first | ((with_reducible apply yl_load); assumption; rfl; (repeat (first | with_reducible assumption | ((with_reducible apply Cl.own); exact rfl) | ((with_reducible apply Cl.blkL); exact rfl) | with_reducible apply Cl.cons)); rfl) | (go_simp; first | done | with_reducible rfl | rfl | omega | assumption | (simp; omega)))); (try simp only [Act.put, aP, aZ, aS]))
          iterate 2 (refine pl_take (v := .bool false) (by kernel_rfl) ?_ ?_; (· (go_simp; first | done | with_reducible rfl | rfl | omega | assumption | (simp; omega))); (try simp only [Act.put, aP, aZ, aS]))
          iterate 4 (refine pl_take (v := ?_) (by kernel_rfl) ?_ ?_; rotate_left; (· (first | ((with_reducible apply yl_load); assumption; rfl; (repeat (first | with_reducible assumption | ((with_reducible apply Cl.own); exact rfl) | ((with_reducible apply Cl.blkL); exact rfl) | with_reducible apply Cl.cons)); rfl) | (go_simp; first | done | with_reducible rfl | rfl | omega | assumption | (simp; omega)))); (try simp only [Act.put, aP, aZ, aS]))
          iterate 3 (refine pl_take (v := .bool true) (by kernel_rfl) ?_ ?_; (· (go_simp; first | done | with_reducible rfl | rfl | omega | assumption | (simp; omega))); (try simp only [Act.put, aP, aZ, aS]))
          iterate 7 (refine pl_skip (by kernel_rfl) ?_; (try simp only [Act.put, aP, aZ, aS]))
          refine pl_take (v := .bool true) (by kernel_rfl) ?_ ?_
          · (go_simp; first | done | with_reducible rfl | rfl | omega | assumption | (simp; omega))
          (try simp only [Act.put, aP, aZ, aS])
          refine pl_take (v := .bool true) rfl ?_ ?_
          · (go_simp; first | done | with_reducible rfl | rfl | omega | assumption | (simp; omega))
          (try simp only [Act.put, aP, aZ, aS])
          refine pl_done ?_
          refine hK8.out _ _ ?_
          (try clear hK8 K8)
          refine wp_cond_true rfl ?_
          refine wk_seq (fun K9 hK9 => ?_)
          refine wk_reg ?_
          iterate 2 (refine pl_take (v := ?_) rfl ?_ ?_; rotate_left; (· (go_simp; first | done | with_reducible rfl | rfl | omega | assumption | (simp; omega))); (try simp only [Act.put, aP, aZ, aS]))
          refine pl_done ?_
          refine hK9.out _ _ ?_
          (try clear hK9 K9)
          refine wp_ret ?_
          go_ret
          exact ⟨rfl, (by assumption : Sat w0 _ _).pick (by (repeat (first | exact Pick.nil _ | exact Pick.tail _ | exact Out.here _ | apply Out.there | apply Pick.cons | apply Pick.drop)))⟩
      · obtain rfl : R = i := by rw [Hn.out]; simp [alike, k1]
        have k4 : (et != et') = true := by simp [k1]
        clear k1
        refine wk_seq (fun K3 hK3 => ?_)
        refine wk_seq (fun K4 hK4 => ?_)
        refine wk_reg ?_
        iterate 2 (refine pl_take (v := ?_) rfl ?_ ?_; rotate_left; (· (go_simp; first | done | with_reducible rfl | rfl | omega | assumption | (simp; omega))); (try simp only [Act.put, aP, aZ, aS]))
        refine pl_take (v := .bool true) rfl ?_ ?_
        · (go_simp; first | done | with_reducible rfl | rfl | omega | assumption | (simp; omega))
        (try simp only [Act.put, aP, aZ, aS])
        refine pl_done ?_
        refine hK4.out _ _ ?_
        (try clear hK4 K4)
        refine wp_cond_true rfl ?_
        refine wp_skip ?_
        refine hK3.out _ _ ?_
        (try clear hK3 K3)
        refine wk_seq (fun K5 hK5 => ?_)
        refine wp_block ?_
        refine wk_seq (fun K6 hK6 => ?_)
        refine wk_reg ?_
        iterate 2 (refine pl_take (v := ?_) rfl ?_ ?_; rotate_left; (· (first | (first | ((with_reducible apply yl_loadAgg); assumption; rfl; (repeat (first | with_reducible exact Out.here _ | apply Out.there)); (simp); rfl; rfl) | ((with_reducible apply yl_loadAggR); assumption; rfl; (repeat (first | with_reducible assumption | with_reducible exact Rd.own | with_reducible exact Rd.nil | with_reducible apply Rd.cons)); rfl)) | (go_simp; first | done | with_reducible rfl | rfl | omega | assumption | (simp; omega)))); (try simp only [Act.put, aP, aZ, aS]))
        refine pl_eff rfl (fun Kp hKp => ?_)
        go_simp
        (refine (hAt _ _ (by assumption) (by (repeat (first | exact Pick.nil _ | exact Pick.tail _ | exact Out.here _ | apply Out.there | apply Pick.cons | apply Pick.drop)))).mono ?_; rintro e26 w26 ⟨rfl, hs26⟩)
        (try go_wp2_with fail)
        refine hKp.out _ _ ?_
        clear hKp Kp
        (try simp only [Act.put, aP, aZ, aS])
        iterate 3 (refine pl_take (v := ?_) rfl ?_ ?_; rotate_left; (· (go_simp; first | done | with_reducible rfl | rfl | omega | assumption | (simp; omega))); (try simp only [Act.put, aP, aZ, aS]))
        refine pl_eff rfl (fun Kp hKp => ?_)
        ((with_reducible apply st_alloc); assumption; intro b8 w8 hs8; simp only [Value.cells] at hs8)
        refine hKp.out _ _ ?_
        clear hKp Kp
        (try simp only [Act.put, aP, aZ, aS])
        refine pl_eff rfl (fun Kp hKp => ?_)
        (first | ((with_reducible apply st_storeAll); assumption; rfl; (go_simp; rfl); (repeat (first | with_reducible exact Out.here _ | apply Out.there)); rfl; (focus (first | (simp [Value.oneCell']; done) | (simp [Value.cells, Value.oneCell']; done))); rfl; intro wr4_7 hsr4_7; simp only [Value.cells] at hsr4_7) | ((with_reducible apply st_store); assumption; rfl; (go_simp; rfl); (repeat (first | with_reducible exact Out.here _ | apply Out.there)); rfl; (first | (focus (simp [Value.oneCell']; done)) | (simp [Value.cells, Value.oneCell'])); (first | (focus (simp; done)) | (simp [Value.cells])); intro wr4_7 hsr4_7; simp only [upd, Value.cells] at hsr4_7))
        refine hKp.out _ _ ?_
        clear hKp Kp
        (try dsimp only [Act.put])
        refine pl_take (v := ?_) rfl ?_ ?_
        rotate_left
        · (go_simp; first | done | with_reducible rfl | rfl | omega | assumption | (simp; omega))
        (try simp only [Act.put, aP, aZ, aS])
        refine pl_done ?_
        refine hK6.out _ _ ?_
        (try clear hK6 K6)
        refine wk_seq (fun K7 hK7 => ?_)
        refine wk_reg ?_
        iterate 2 (refine pl_take (v := ?_) rfl ?_ ?_; rotate_left; (· (first | (first | ((with_reducible apply yl_loadAgg); assumption; rfl; (repeat (first | with_reducible exact Out.here _ | apply Out.there)); (simp); rfl; rfl) | ((with_reducible apply yl_loadAggR); assumption; rfl; (repeat (first | with_reducible assumption | with_reducible exact Rd.own | with_reducible exact Rd.nil | with_reducible apply Rd.cons)); rfl)) | (go_simp; first | done | with_reducible rfl | rfl | omega | assumption | (simp; omega)))); (try simp only [Act.put, aP, aZ, aS]))
        refine pl_eff rfl (fun Kp hKp => ?_)
        go_simp
        (refine (hAt' _ _ (by assumption) (by (repeat (first | exact Pick.nil _ | exact Pick.tail _ | exact Out.here _ | apply Out.there | apply Pick.cons | apply Pick.drop)))).mono ?_; rintro e32 w32 ⟨rfl, hs32⟩)
        (try go_wp2_with fail)
        refine hKp.out _ _ ?_
        clear hKp Kp
        (try simp only [Act.put, aP, aZ, aS])
        iterate 3 (refine pl_take (v := ?_) rfl ?_ ?_; rotate_left; (· (go_simp; first | done | with_reducible rfl | rfl | omega | assumption | (simp; omega))); (try simp only [Act.put, aP, aZ, aS]))
        refine pl_eff rfl (fun Kp hKp => ?_)
        ((with_reducible apply st_alloc); assumption; intro b10 w10 hs10; simp only [Value.cells] at hs10)
        refine hKp.out _ _ ?_
        clear hKp Kp
        (try simp only [Act.put, aP, aZ, aS])
        refine pl_eff rfl (fun Kp hKp => ?_)
        (first | ((with_reducible apply st_storeAll); assumption; rfl; (go_simp; rfl); (repeat (first | with_reducible exact Out.here _ | apply Out.there)); rfl; (focus (first | (simp [Value.oneCell']; done) | (simp [Value.cells, Value.oneCell']; done))); rfl; intro wr5_7 hsr5_7; simp only [Value.cells] at hsr5_7) | ((with_reducible apply st_store); assumption; rfl; (go_simp; rfl); (repeat (first | with_reducible exact Out.here _ | apply Out.there)); rfl; (first | (focus (simp [Value.oneCell']; done)) | (simp [Value.cells, Value.oneCell'])); (first | (focus (simp; done)) | (simp [Value.cells])); intro wr5_7 hsr5_7; simp only [upd, Value.cells] at hsr5_7))
        refine hKp.out _ _ ?_
        clear hKp Kp
        (try dsimp only [Act.put])
        refine pl_take (v := ?_) rfl ?_ ?_
        rotate_left
        · (go_simp; first | done | with_reducible rfl | rfl | omega | assumption | (simp; omega))
        (try simp only [Act.put, aP, aZ, aS])
        refine pl_done ?_
        refine hK7.out _ _ ?_
        (try clear hK7 K7)
        refine wk_seq (fun K8 hK8 => ?_)
        refine wk_reg ?_
        refine pl_take (v := ?_) rfl ?_ ?_
        rotate_left
        · (go_simp; first | done | with_reducible rfl | rfl | omega | assumption | (simp; omega))
        (try simp only [Act.put, aP, aZ, aS])
        refine pl_take (v := .bool true) rfl ?_ ?_
        · (go_simp; first | done | with_reducible rfl | rfl | omega | assumption | (simp; omega))
        (try simp only [Act.put, aP, aZ, aS])
        refine pl_take (v := .bool true) (by kernel_rfl) ?_ ?_
        · (go_simp; first | done | with_reducible rfl | rfl | omega | assumption | (simp; omega))
        (try simp only [Act.put, aP, aZ, aS])
        iterate 2 (refine pl_take (v := .bool true) rfl ?_ ?_; (· (go_simp; first | done | with_reducible rfl | rfl | omega | assumption | (simp; omega))); (try simp only [Act.put, aP, aZ, aS]))
        iterate 4 (refine pl_take (v := ?_) (by kernel_rfl) ?_ ?_; rotate_left; (· (first | ((with_reducible apply yl_load); assumption; rfl; (repeat (first | with_reducible assumption | ((with_reducible apply Cl.own); exact rfl) | ((with_reducible apply Cl.blkL); exact rfl) | with_reducible apply Cl.cons)); rfl) | (go_simp; first | done | with_reducible rfl | rfl | omega | assumption | (simp; omega)))); (try simp only [Act.put, aP, aZ, aS]))
        iterate 2 (refine pl_take (v := .bool true) (by kernel_rfl) ?_ ?_; (· (go_simp; first | done | with_reducible rfl | rfl | omega | assumption | (simp; omega))); (try simp only [Act.put, aP, aZ, aS]))
        iterate 5 (refine pl_skip (by kernel_rfl) ?_; (try simp only [Act.put, aP, aZ, aS]))
        iterate 2 (refine pl_take (v := .bool true) (by kernel_rfl) ?_ ?_; (· (go_simp; first | done | with_reducible rfl | rfl | omega | assumption | (simp; omega))); (try simp only [Act.put, aP, aZ, aS]))
        iterate 7 (refine pl_skip (by kernel_rfl) ?_; (try simp only [Act.put, aP, aZ, aS]))
        refine pl_take (v := .bool true) (by kernel_rfl) ?_ ?_
        · (go_simp; first | done | with_reducible rfl | rfl | omega | assumption | (simp; omega))
        (try simp only [Act.put, aP, aZ, aS])
        refine pl_take (v := .bool true) rfl ?_ ?_
        · (go_simp; first | done | with_reducible rfl | rfl | omega | assumption | (simp; omega))
        (try simp only [Act.put, aP, aZ, aS])
        refine pl_done ?_
        refine hK8.out _ _ ?_
        (try clear hK8 K8)
        refine wp_cond_true rfl ?_
        refine wk_seq (fun K9 hK9 => ?_)
        refine wk_reg ?_
        iterate 2 (refine pl_take (v := ?_) rfl ?_ ?_; rotate_left; (· (go_simp; first | done | with_reducible rfl | rfl | omega | assumption | (simp; omega))); (try simp only [Act.put, aP, aZ, aS]))
        refine pl_done ?_
        refine hK9.out _ _ ?_
        (try clear hK9 K9)
        refine wp_ret ?_
        go_ret
        exact ⟨rfl, (by assumption : Sat w0 _ _).pick (by (repeat (first | exact Pick.nil _ | exact Pick.tail _ | exact Out.here _ | apply Out.there | apply Pick.cons | apply Pick.drop)))⟩
    · obtain rfl : R = 0 := by
        rw [Hi.out, show (lim + 1 - i).toNat = 0 from by omega]; rfl
      refine wk_seq (fun K3 hK3 => ?_)
      refine wk_seq (fun K4 hK4 => ?_)
      refine wk_reg ?_
      iterate 2 (refine pl_take (v := ?_) rfl ?_ ?_; rotate_left; (· (go_simp; first | done | with_reducible rfl | rfl | omega | assumption | (simp; omega))); (try simp only [Act.put, aP, aZ, aS]))
      refine pl_take (v := .bool false) rfl ?_ ?_
      · (go_simp; first | done | with_reducible rfl | rfl | omega | assumption | (simp; omega))
      (try simp only [Act.put, aP, aZ, aS])
      refine pl_done ?_
      refine hK4.out _ _ ?_
      (try clear hK4 K4)
      refine wp_cond_false rfl ?_
      refine wp_exit ?_
      refine hK1.out _ _ ?_
      (try clear hK1 K1)
      refine wk_seq (fun K10 hK10 => ?_)
      refine wk_reg ?_
      refine pl_take (v := ?_) rfl ?_ ?_
      rotate_left
      · (go_simp; first | done | with_reducible rfl | rfl | omega | assumption | (simp; omega))
      (try simp only [Act.put, aP, aZ, aS])
      refine pl_done ?_
      refine hK10.out _ _ ?_
      (try clear hK10 K10)
      refine wp_ret ?_
      go_ret
      exact ⟨rfl, (by assumption : Sat w0 _ _).pick (by (repeat (first | exact Pick.nil _ | exact Pick.tail _ | exact Out.here _ | apply Out.there | apply Pick.cons | apply Pick.drop)))⟩

theorem bothW_lim {step : Int → Ent → Ent → Int → Bool × Int} {a b : Vw} {lim s : Int} : bothW step a b (min lim (min (lastV a) (lastV b))) s = bothW step a b lim s := by
  unfold bothW
  rw [show hi a b (min lim (min (lastV a) (lastV b))) = hi a b lim from by unfold hi; omega]

theorem refAgree_spec {w0 w : World} {L : List HP} {A B : Option Addr} {ca cb : Nat} (ia ta ma : Int) (la : Bool) (ab at_ : Int) (al : List Ent) (ib tb mb : Int) (lb : Bool) (bb bt : Int) (bl : List Ent) (hal : al.length ≤ 1048576) (hda : ∀ x ∈ al, x.d.length ≤ 1048576) (hbl : bl.length ≤ 1048576) (hdb : ∀ x ∈ bl, x.d.length ≤ 1048576) (hs : Sat w0 w L)
    (hE : SlV EntV 4 (Rd w0 L) [.slice A al.length ca] al) (hE' : SlV EntV 4 (Rd w0 L) [.slice B bl.length cb] bl) :
    Calls Try.prog 17 #[.agg #[.int .i64 ia, .int .i64 ta, .int .i64 ma, .bool la, .int .i64 ab, .int .i64 at_, .slice A al.length ca], .agg #[.int .i64 ib, .int .i64 tb, .int .i64 mb, .bool lb, .int .i64 bb, .int .i64 bt, .slice B bl.length cb]] w
      (fun e w' => e = .returned (.int .i64 (agreeV ⟨ab, at_, al⟩ ma ⟨bb, bt, bl⟩ mb)) ∧ Sat w0 w' L) := by
  unfold agreeV
  obtain ⟨q1, q2, q3, _⟩ := wholeV_ok ⟨ab, at_, al⟩
  obtain ⟨q5, q6, q7, _⟩ := wholeV_ok ⟨bb, bt, bl⟩
  have hWA := fun (w : World) (L' : List HP) (hs : Sat w0 w L') (hp : Pick L' L) => wholeR ab at_ al hal hda hs hp hE
  have hWB := fun (w : World) (L' : List HP) (hs : Sat w0 w L') (hp : Pick L' L) => wholeR bb bt bl hbl hdb hs hp hE'
  obtain ⟨⟨wab, wat, wal⟩, ha⟩ : ∃ v, wholeV ⟨ab, at_, al⟩ = v := ⟨_, rfl⟩
  obtain ⟨⟨wbb, wbt, wbl⟩, hb⟩ : ∃ v, wholeV ⟨bb, bt, bl⟩ = v := ⟨_, rfl⟩
  rw [ha] at q1 q2 q3 hWA
  rw [hb] at q5 q6 q7 hWB
  simp only at q1 q2 q3 q5 q6 q7
  rw [ha, hb]
  clear ha hb
  obtain ⟨m1, hm1⟩ : ∃ m1, (if mb < ma then mb else ma) = m1 := ⟨_, rfl⟩
  obtain ⟨m2, hm2⟩ : ∃ m2, (if wbb + (wbl.length : Int) < wab + (wal.length : Int) then wbb + (wbl.length : Int) else wab + (wal.length : Int)) = m2 := ⟨_, rfl⟩
  obtain ⟨m3, hm3⟩ : ∃ m3, (if m2 < m1 then m2 else m1) = m3 := ⟨_, rfl⟩
  have g1 : m1 = min ma mb := by rw [← hm1]; split <;> omega
  have g2 : m2 = min (wab + (wal.length : Int)) (wbb + (wbl.length : Int)) := by rw [← hm2]; split <;> omega
  have g3 : m3 = min m1 m2 := by rw [← hm3]; split <;> omega
  have hwa : IntKind.i64.wrap (wab + (wal.length : Int)) = wab + (wal.length : Int) := IntWalk.i64_in _ (by omega)
  have hwb : IntKind.i64.wrap (wbb + (wbl.length : Int)) = wbb + (wbl.length : Int) := IntWalk.i64_in _ (by omega)
  have hD := fun (w : World) (L' : List HP) (A B : Option Addr) (ca cb : Nat) (hs : Sat w0 w L') (h1 : SlV EntV 4 (Rd w0 L') [.slice A wal.length ca] wal) (h2 : SlV EntV 4 (Rd w0 L') [.slice B wbl.length cb] wbl) =>
    refDiffer_spec (ca := ca) (cb := cb) wab wat wal wbb wbt wbl m3 q1 q2 q5 q6 (by omega) (by omega) (by omega) (by omega) hs h1 h2
  have e3 : bothW stepD ⟨wab, wat, wal⟩ ⟨wbb, wbt, wbl⟩ m3 0 = bothW stepD ⟨wab, wat, wal⟩ ⟨wbb, wbt, wbl⟩ (min ma mb) 0 := by
    rw [← bothW_lim (lim := min ma mb)]; unfold lastV; simp only; rw [g3, g1, g2]
  obtain ⟨R, hR⟩ : ∃ R, bothW stepD ⟨wab, wat, wal⟩ ⟨wbb, wbt, wbl⟩ (min ma mb) 0 = R := ⟨_, rfl⟩
  rw [e3, hR] at hD
  rw [hR]
  clear hR e3 g1 g2 g3
  go_enter Try.func17, Try.ntmps17
  refine wk_seq (fun K0 hK0 => ?_)
  refine wk_reg ?_
  refine pl_eff rfl (fun Kp hKp => ?_)
  ((with_reducible apply st_box); assumption; (go_simp; rfl); intro b2 w2 hs2; simp only [Value.cells] at hs2)
  refine hKp.out _ _ ?_
  clear hKp Kp
  (try simp only [Act.put, aP, aZ, aS])
  refine pl_eff rfl (fun Kp hKp => ?_)
  ((with_reducible apply st_box); assumption; (go_simp; rfl); intro b3 w3 hs3; simp only [Value.cells] at hs3)
  refine hKp.out _ _ ?_
  clear hKp Kp
  (try simp only [Act.put, aP, aZ, aS])
  refine pl_take (v := ?_) rfl ?_ ?_
  rotate_left
  · (go_simp; first | done | with_reducible rfl | rfl | omega | assumption | (simp; omega))
  (try simp only [Act.put, aP, aZ, aS])
  refine pl_done ?_
  refine hK0.out _ _ ?_
  (try clear hK0 K0)
  refine wk_seq (fun K1 hK1 => ?_)
  refine wk_reg ?_
  iterate 2 (refine pl_take (v := ?_) rfl ?_ ?_; rotate_left; (· (first | (first | ((with_reducible apply yl_loadAgg); assumption; rfl; (repeat (first | with_reducible exact Out.here _ | apply Out.there)); (simp); rfl; rfl) | ((with_reducible apply yl_loadAggR); assumption; rfl; (repeat (first | with_reducible assumption | with_reducible exact Rd.own | with_reducible exact Rd.nil | with_reducible apply Rd.cons)); rfl)) | (go_simp; first | done | with_reducible rfl | rfl | omega | assumption | (simp; omega)))); (try simp only [Act.put, aP, aZ, aS]))
  refine pl_eff rfl (fun Kp hKp => ?_)
  go_simp
  (refine (hWA _ _ (by assumption) (by (repeat (first | exact Pick.nil _ | exact Pick.tail _ | exact Out.here _ | apply Out.there | apply Pick.cons | apply Pick.drop)))).mono ?_; rintro e10 w10 ⟨WA, wca, rfl, hEA, hs10⟩; simp only at hEA ⊢)
  (try go_wp2_with fail)
  refine hKp.out _ _ ?_
  clear hKp Kp
  (try simp only [Act.put, aP, aZ, aS])
  refine pl_eff rfl (fun Kp hKp => ?_)
  ((with_reducible apply st_alloc); assumption; intro b5 w5 hs5; simp only [Value.cells] at hs5)
  refine hKp.out _ _ ?_
  clear hKp Kp
  (try simp only [Act.put, aP, aZ, aS])
  refine pl_eff rfl (fun Kp hKp => ?_)
  (first | ((with_reducible apply st_storeAll); assumption; rfl; (go_simp; rfl); (repeat (first | with_reducible exact Out.here _ | apply Out.there)); rfl; (focus (first | (simp [Value.oneCell']; done) | (simp [Value.cells, Value.oneCell']; done))); rfl; intro wr1_4 hsr1_4; simp only [Value.cells] at hsr1_4) | ((with_reducible apply st_store); assumption; rfl; (go_simp; rfl); (repeat (first | with_reducible exact Out.here _ | apply Out.there)); rfl; (first | (focus (simp [Value.oneCell']; done)) | (simp [Value.cells, Value.oneCell'])); (first | (focus (simp; done)) | (simp [Value.cells])); intro wr1_4 hsr1_4; simp only [upd, Value.cells] at hsr1_4))
  refine hKp.out _ _ ?_
  clear hKp Kp
  (try dsimp only [Act.put])
  refine pl_done ?_
  refine hK1.out _ _ ?_
  (try clear hK1 K1)
  refine wk_seq (fun K2 hK2 => ?_)
  refine wk_reg ?_
  iterate 2 (refine pl_take (v := ?_) rfl ?_ ?_; rotate_left; (· (first | (first | ((with_reducible apply yl_loadAgg); assumption; rfl; (repeat (first | with_reducible exact Out.here _ | apply Out.there)); (simp); rfl; rfl) | ((with_reducible apply yl_loadAggR); assumption; rfl; (repeat (first | with_reducible assumption | with_reducible exact Rd.own | with_reducible exact Rd.nil | with_reducible apply Rd.cons)); rfl)) | (go_simp; first | done | with_reducible rfl | rfl | omega | assumption | (simp; omega)))); (try simp only [Act.put, aP, aZ, aS]))
  refine pl_eff rfl (fun Kp hKp => ?_)
  go_simp
  (refine (hWB _ _ (by assumption) (by (repeat (first | exact Pick.nil _ | exact Pick.tail _ | exact Out.here _ | apply Out.there | apply Pick.cons | apply Pick.drop)))).mono ?_; rintro e13 w13 ⟨WB, wcb, rfl, hEB, hs13⟩; simp only at hEB ⊢)
  (try go_wp2_with fail)
  refine hKp.out _ _ ?_
  clear hKp Kp
  (try simp only [Act.put, aP, aZ, aS])
  refine pl_eff rfl (fun Kp hKp => ?_)
  ((with_reducible apply st_alloc); assumption; intro b6 w6 hs6; simp only [Value.cells] at hs6)
  refine hKp.out _ _ ?_
  clear hKp Kp
  (try simp only [Act.put, aP, aZ, aS])
  refine pl_eff rfl (fun Kp hKp => ?_)
  (first | ((with_reducible apply st_storeAll); assumption; rfl; (go_simp; rfl); (repeat (first | with_reducible exact Out.here _ | apply Out.there)); rfl; (focus (first | (simp [Value.oneCell']; done) | (simp [Value.cells, Value.oneCell']; done))); rfl; intro wr2_4 hsr2_4; simp only [Value.cells] at hsr2_4) | ((with_reducible apply st_store); assumption; rfl; (go_simp; rfl); (repeat (first | with_reducible exact Out.here _ | apply Out.there)); rfl; (first | (focus (simp [Value.oneCell']; done)) | (simp [Value.cells, Value.oneCell'])); (first | (focus (simp; done)) | (simp [Value.cells])); intro wr2_4 hsr2_4; simp only [upd, Value.cells] at hsr2_4))
  refine hKp.out _ _ ?_
  clear hKp Kp
  (try dsimp only [Act.put])
  refine pl_done ?_
  refine hK2.out _ _ ?_
  (try clear hK2 K2)
  refine wk_seq (fun K3 hK3 => ?_)
  refine wk_reg ?_
  iterate 20 (refine pl_take (v := ?_) rfl ?_ ?_; rotate_left; (· (first | ((with_reducible apply yl_load); assumption; rfl; (repeat (first | with_reducible assumption | ((with_reducible apply Cl.own); exact rfl) | ((with_reducible apply Cl.blkL); exact rfl) | with_reducible apply Cl.cons)); rfl) | (go_simp; first | done | with_reducible rfl | rfl | omega | assumption | (simp; omega)))); (try simp only [Act.put, aP, aZ, aS]))
  refine pl_done ?_
  refine hK3.out _ _ ?_
  (try clear hK3 K3)
  refine wk_seq (fun K4 hK4 => ?_)
  refine wk_reg ?_
  iterate 3 (refine pl_take (v := ?_) rfl ?_ ?_; rotate_left; (· (first | (first | ((with_reducible apply yl_loadAgg); assumption; rfl; (repeat (first | with_reducible exact Out.here _ | apply Out.there)); (simp); rfl; rfl) | ((with_reducible apply yl_loadAggR); assumption; rfl; (repeat (first | with_reducible assumption | with_reducible exact Rd.own | with_reducible exact Rd.nil | with_reducible apply Rd.cons)); rfl)) | (go_simp; first | done | with_reducible rfl | rfl | omega | assumption | (simp; omega)))); (try simp only [Act.put, aP, aZ, aS]))
  refine pl_eff rfl (fun Kp hKp => ?_)
  go_simp
  (refine (hD _ _ _ _ _ _ (by assumption) ((SlV.mono EntV.mono).pick (by (repeat (first | exact Pick.nil _ | exact Pick.tail _ | exact Out.here _ | apply Out.there | apply Pick.cons | apply Pick.drop))) hEA) ((SlV.mono EntV.mono).pick (by (repeat (first | exact Pick.nil _ | exact Pick.tail _ | exact Out.here _ | apply Out.there | apply Pick.cons | apply Pick.drop))) hEB)).mono ?_; rintro e36 w36 ⟨rfl, hs36⟩)
  (try go_wp2_with fail)
  refine hKp.out _ _ ?_
  clear hKp Kp
  (try simp only [Act.put, aP, aZ, aS])
  refine pl_take (v := ?_) rfl ?_ ?_
  rotate_left
  · (go_simp; first | done | with_reducible rfl | rfl | omega | assumption | (simp; omega))
  (try simp only [Act.put, aP, aZ, aS])
  refine pl_done ?_
  refine hK4.out _ _ ?_
  (try clear hK4 K4)
  refine wp_ret ?_
  go_ret
  exact ⟨rfl, (by assumption : Sat w0 _ _).pick (by (repeat (first | exact Pick.nil _ | exact Pick.tail _ | exact Out.here _ | apply Out.there | apply Pick.cons | apply Pick.drop)))⟩
end Go.Proofs.Ytcpcdhlfdabbnaa
