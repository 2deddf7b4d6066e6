/-
  Messages: Get of the program.
-/
import Derived.Test.YtcedbmcnjckajaaGet1
namespace Go.Proofs.Ytcedbmcnjckajaa
open Go Go.RowKit Sl Go.Shelf
set_option maxHeartbeats 20000000
set_option maxRecDepth 8000


theorem get_spec {w0 w : World} {L : List HP} {A : Option Addr} {c : Nat} (b : List UInt8) (hl : b.length ≤ 4194304) (hs : Sat w0 w L) (hR : Rd w0 L A b.length 1 (B8 b)) :
    Calls Try.prog 17 #[.slice A b.length c] w (RetGM w0 L (getMsg b)) := by
  obtain ⟨⟨n1, e1, r1⟩, x1⟩ : ∃ x, rdNumber 0 b = x := ⟨_, rfl⟩
  have l1 := (rdNumber_ok x1).2.2.1
  obtain ⟨⟨n2, e2, r2⟩, x2⟩ : ∃ x, rdNumber e1 r1 = x := ⟨_, rfl⟩
  have l2 := (rdNumber_ok x2).2.2.1
  obtain ⟨⟨n3, e3, r3⟩, x3⟩ : ∃ x, rdNumber e2 r2 = x := ⟨_, rfl⟩
  have l3 := (rdNumber_ok x3).2.2.1
  obtain ⟨⟨n4, e4, r4⟩, x4⟩ : ∃ x, rdNumber e3 r3 = x := ⟨_, rfl⟩
  have l4 := (rdNumber_ok x4).2.2.1
  obtain ⟨⟨n5, e5, r5⟩, x5⟩ : ∃ x, rdNumber e4 r4 = x := ⟨_, rfl⟩
  have l5 := (rdNumber_ok x5).2.2.1
  obtain ⟨⟨n6, e6, r6⟩, x6⟩ : ∃ x, rdNumber e5 r5 = x := ⟨_, rfl⟩
  have l6 := (rdNumber_ok x6).2.2.1
  obtain ⟨⟨n7, e7, r7⟩, x7⟩ : ∃ x, rdNumber e6 r6 = x := ⟨_, rfl⟩
  have l7 := (rdNumber_ok x7).2.2.1
  obtain ⟨⟨n8, e8, r8⟩, x8⟩ : ∃ x, rdNumber e7 r7 = x := ⟨_, rfl⟩
  have l8 := (rdNumber_ok x8).2.2.1
  obtain ⟨⟨n9, e9, r9⟩, x9⟩ : ∃ x, rdNumber e8 r8 = x := ⟨_, rfl⟩
  have l9 := (rdNumber_ok x9).2.2.1
  have c1 := fun (w : World) (L : List HP) (buf : HP) (p : Nat) (hs : Sat w0 w (Rd1 buf p 0 b :: buf :: L)) => number_read 0 b (by omega) hs
  rw [x1] at c1
  have c2 := fun (w : World) (L : List HP) (buf : HP) (p : Nat) (hs : Sat w0 w (Rd1 buf p e1 r1 :: buf :: L)) => number_read e1 r1 (by omega) hs
  rw [x2] at c2
  have c3 := fun (w : World) (L : List HP) (buf : HP) (p : Nat) (hs : Sat w0 w (Rd1 buf p e2 r2 :: buf :: L)) => number_read e2 r2 (by omega) hs
  rw [x3] at c3
  have c4 := fun (w : World) (L : List HP) (buf : HP) (p : Nat) (hs : Sat w0 w (Rd1 buf p e3 r3 :: buf :: L)) => number_read e3 r3 (by omega) hs
  rw [x4] at c4
  have c5 := fun (w : World) (L : List HP) (buf : HP) (p : Nat) (hs : Sat w0 w (Rd1 buf p e4 r4 :: buf :: L)) => number_read e4 r4 (by omega) hs
  rw [x5] at c5
  have c6 := fun (w : World) (L : List HP) (buf : HP) (p : Nat) (hs : Sat w0 w (Rd1 buf p e5 r5 :: buf :: L)) => number_read e5 r5 (by omega) hs
  rw [x6] at c6
  have c7 := fun (w : World) (L : List HP) (buf : HP) (p : Nat) (hs : Sat w0 w (Rd1 buf p e6 r6 :: buf :: L)) => number_read e6 r6 (by omega) hs
  rw [x7] at c7
  have c8 := fun (w : World) (L : List HP) (buf : HP) (p : Nat) (hs : Sat w0 w (Rd1 buf p e7 r7 :: buf :: L)) => number_read e7 r7 (by omega) hs
  rw [x8] at c8
  have c9 := fun (w : World) (L : List HP) (buf : HP) (p : Nat) (hs : Sat w0 w (Rd1 buf p e8 r8 :: buf :: L)) => number_read e8 r8 (by omega) hs
  rw [x9] at c9
  have HM := Hid.mk' (rdMany_nine x1 x2 x3 x4 x5 x6 x7 x8 x9)
  clear x1 x2 x3 x4 x5 x6 x7 x8 x9
  have l10 : r9.length ≤ 4194304 := by omega
  clear l1 l2 l3 l4 l5 l6 l7 l8 l9
  obtain ⟨X, hX⟩ : ∃ X, getMsg b = X := ⟨_, rfl⟩
  rw [hX]
  have HX := Hid.mk' hX
  clear hX
  obtain ⟨yes, hyes⟩ : ∃ yes, (n9 == 1) = yes := ⟨_, rfl⟩
  go_enter_defers Try.func17, Try.ntmps17
  refine wk_seq (fun K0 hK0 => ?_)
  refine wk_reg ?_
  refine pl_eff rfl (fun Kp hKp => ?_)
  ((with_reducible apply st_alloc); assumption; intro b2 w2 hs2; simp only [Value.cells] at hs2)
  refine hKp.out _ _ ?_
  clear hKp Kp
  (try simp only [Act.put, aP, aZ, aS])
  refine pl_eff rfl (fun Kp hKp => ?_)
  ((with_reducible apply st_alloc); assumption; intro b3 w3 hs3; simp only [Value.cells] at hs3)
  refine hKp.out _ _ ?_
  clear hKp Kp
  (try simp only [Act.put, aP, aZ, aS])
  refine pl_done ?_
  refine hK0.out _ _ ?_
  (try clear hK0 K0)
  refine wk_seq (fun K1 hK1 => ?_)
  refine wk_reg ?_
  refine pl_eff rfl (fun Kp hKp => ?_)
  go_simp
  refine hKp.out _ _ ?_
  clear hKp Kp
  (try dsimp only [Act.put])
  refine pl_done ?_
  refine hK1.out _ _ ?_
  (try clear hK1 K1)
  refine wk_seq (fun K2 hK2 => ?_)
  refine wk_reg ?_
  refine pl_take (v := ?_) rfl ?_ ?_
  rotate_left
  · (go_simp; first | done | with_reducible rfl | rfl | omega | assumption | (simp; omega))
  (try simp only [Act.put, aP, aZ, aS])
  refine pl_eff rfl (fun Kp hKp => ?_)
  go_simp
  ((refine (new_spec b (by omega) (by assumption) (by (repeat (first | with_reducible assumption | with_reducible exact Rd.own | with_reducible exact Rd.nil | with_reducible apply Rd.cons)))).mono ?_); rintro e12 w12 ⟨p, bx, rfl, hs12⟩)
  (try go_wp2_with fail)
  refine hKp.out _ _ ?_
  clear hKp Kp
  (try simp only [Act.put, aP, aZ, aS])
  refine pl_take (v := ?_) rfl ?_ ?_
  rotate_left
  · (go_simp; first | done | with_reducible rfl | rfl | omega | assumption | (simp; omega))
  (try simp only [Act.put, aP, aZ, aS])
  refine pl_done ?_
  refine hK2.out _ _ ?_
  (try clear hK2 K2)
  refine wk_seq (fun K3 hK3 => ?_)
  -- at a cut
  go_cut [] from 13 to 21 (fun w => Sat w0 w (blk b2 (.cells #[.int .i64 n1, .int .i64 n2, .int .i64 n3, .int .i64 n4, .int .i64 n5, .int .i64 n6, .int .i64 n7, .int .i64 n8, .bool false, .slice none 0 0, .slice none 0 0, .slice none 0 0] 27 (0, 0)) :: blk b3 (.cells #[.int .i64 0] 29 (0, 0)) :: Rd1 bx p e8 r8 :: bx :: L))
  case first =>
    refine wk_seq (fun K4 hK4 => ?_)
    refine wk_reg ?_
    refine pl_eff rfl (fun Kp hKp => ?_)
    go_simp
    ((refine (fields_spec (by assumption)).mono ?_); rintro e13 w13 ⟨rfl, hs13⟩)
    (try go_wp2_with fail)
    refine hKp.out _ _ ?_
    clear hKp Kp
    (try simp only [Act.put, aP, aZ, aS])
    refine pl_take (v := ?_) rfl ?_ ?_
    rotate_left
    · (go_simp; first | done | with_reducible rfl | rfl | omega | assumption | (simp; omega))
    (try simp only [Act.put, aP, aZ, aS])
    refine pl_done ?_
    refine hK4.out _ _ ?_
    (try clear hK4 K4)
    refine wp_block ?_
    have hwr1 : IntKind.i64.wrap 1 = 1 := by decide
    have hwr2 : IntKind.i64.wrap 2 = 2 := by decide
    have hwr3 : IntKind.i64.wrap 3 = 3 := by decide
    have hwr4 : IntKind.i64.wrap 4 = 4 := by decide
    have hwr5 : IntKind.i64.wrap 5 = 5 := by decide
    have hwr6 : IntKind.i64.wrap 6 = 6 := by decide
    have hwr7 : IntKind.i64.wrap 7 = 7 := by decide
    have hwr8 : IntKind.i64.wrap 8 = 8 := by decide
    have hwr9 : IntKind.i64.wrap 9 = 9 := by decide
    have hwr10 : IntKind.i64.wrap 10 = 10 := by decide
    have hwr11 : IntKind.i64.wrap 11 = 11 := by decide
    have hwr12 : IntKind.i64.wrap 12 = 12 := by decide
    have hwr13 : IntKind.i64.wrap 13 = 13 := by decide
    refine wp_loop_rounds 9 ?_
    rw [rounds_succ]
    refine wk_seq (fun K5 hK5 => ?_)
    refine wk_reg ?_
    refine pl_take (v := .bool true) rfl ?_ ?_
    · (go_simp; first | done | with_reducible rfl | rfl | omega | assumption | (simp; omega))
    (try simp only [Act.put, aP, aZ, aS])
    refine pl_done ?_
    refine hK5.out _ _ ?_
    (try clear hK5 K5)
    refine wk_seq (fun K6 hK6 => ?_)
    refine wp_cond_true rfl ?_
    refine wp_skip ?_
    refine hK6.out _ _ ?_
    (try clear hK6 K6)
    refine wk_seq (fun K7 hK7 => ?_)
    refine wp_block ?_
    refine wk_seq (fun K8 hK8 => ?_)
    refine wk_reg ?_
    iterate 2 (refine pl_take (v := ?_) rfl ?_ ?_; rotate_left; (· (go_simp; first | done | with_reducible rfl | rfl | omega | assumption | (simp; omega))); (try simp only [Act.put, aP, aZ, aS]))
    refine pl_done ?_
    refine hK8.out _ _ ?_
    (try clear hK8 K8)
    refine wk_reg ?_
    iterate 2 (refine pl_take (v := ?_) rfl ?_ ?_; rotate_left; (· (go_simp; first | done | with_reducible rfl | rfl | omega | assumption | (simp; omega))); (try simp only [Act.put, aP, aZ, aS]))
    refine pl_eff rfl (fun Kp hKp => ?_)
    go_simp
    (refine (c1 _ _ _ _ ((by assumption : Sat w0 _ _).pick (.cons (by (repeat (first | with_reducible exact Out.here _ | apply Out.there))) (.cons (by (repeat (first | with_reducible exact Out.here _ | apply Out.there))) (.tail _))))).mono ?_; rintro e19 w19 ⟨rfl, hs19⟩)
    (try go_wp2_with fail)
    refine hKp.out _ _ ?_
    clear hKp Kp
    (try simp only [Act.put, aP, aZ, aS])
    refine pl_take (v := ?_) rfl ?_ ?_
    rotate_left
    · (go_simp; first | done | with_reducible rfl | rfl | omega | assumption | (simp; omega))
    (try simp only [Act.put, aP, aZ, aS])
    refine pl_eff rfl (fun Kp hKp => ?_)
    (first | ((with_reducible apply st_store1); assumption; rfl; (go_simp; rfl); (repeat (first | with_reducible exact Out.here _ | apply Out.there)); rfl; rfl; simp; intro wr6_4 hsr6_4; (try simp only [aP] at hsr6_4); (try simp only [aS] at hsr6_4); (try simp only [aZ] at hsr6_4)) | ((with_reducible apply st_store_own); assumption; rfl; (go_simp; rfl); (repeat (first | with_reducible exact Out.here _ | apply Out.there)); rfl; rfl; omega; intro wr6_4 hsr6_4))
    refine hKp.out _ _ ?_
    clear hKp Kp
    (try dsimp only [Act.put])
    refine pl_done ?_
    refine hK7.out _ _ ?_
    (try clear hK7 K7)
    refine wk_reg ?_
    iterate 2 (refine pl_take (v := ?_) rfl ?_ ?_; rotate_left; (· (go_simp; first | done | with_reducible rfl | rfl | omega | assumption | (simp; omega))); (try simp only [Act.put, aP, aZ, aS]))
    refine pl_done ?_
    show Code.rounds _ _ _ _ _ _
    rw [rounds_succ]
    refine wk_seq (fun K5 hK5 => ?_)
    refine wk_reg ?_
    refine pl_take (v := .bool true) rfl ?_ ?_
    · (go_simp; first | done | with_reducible rfl | rfl | omega | assumption | (simp; omega))
    (try simp only [Act.put, aP, aZ, aS])
    refine pl_done ?_
    refine hK5.out _ _ ?_
    (try clear hK5 K5)
    refine wk_seq (fun K6 hK6 => ?_)
    refine wp_cond_true rfl ?_
    refine wp_skip ?_
    refine hK6.out _ _ ?_
    (try clear hK6 K6)
    refine wk_seq (fun K7 hK7 => ?_)
    refine wp_block ?_
    refine wk_seq (fun K8 hK8 => ?_)
    refine wk_reg ?_
    iterate 2 (refine pl_take (v := ?_) rfl ?_ ?_; rotate_left; (· (go_simp; first | done | with_reducible rfl | rfl | omega | assumption | (simp; omega))); (try simp only [Act.put, aP, aZ, aS]))
    refine pl_done ?_
    refine hK8.out _ _ ?_
    (try clear hK8 K8)
    refine wk_reg ?_
    iterate 2 (refine pl_take (v := ?_) rfl ?_ ?_; rotate_left; (· (go_simp; first | done | with_reducible rfl | rfl | omega | assumption | (simp; omega))); (try simp only [Act.put, aP, aZ, aS]))
    refine pl_eff rfl (fun Kp hKp => ?_)
    go_simp
    (refine (c2 _ _ _ _ ((by assumption : Sat w0 _ _).pick (.cons (by (repeat (first | with_reducible exact Out.here _ | apply Out.there))) (.cons (by (repeat (first | with_reducible exact Out.here _ | apply Out.there))) (.tail _))))).mono ?_; rintro e19 w19 ⟨rfl, hs19⟩)
    (try go_wp2_with fail)
    refine hKp.out _ _ ?_
    clear hKp Kp
    (try simp only [Act.put, aP, aZ, aS])
    refine pl_take (v := ?_) rfl ?_ ?_
    rotate_left
    · (go_simp; first | done | with_reducible rfl | rfl | omega | assumption | (simp; omega))
    (try simp only [Act.put, aP, aZ, aS])
    refine pl_eff rfl (fun Kp hKp => ?_)
    (first | ((with_reducible apply st_store1); assumption; rfl; (go_simp; rfl); (repeat (first | with_reducible exact Out.here _ | apply Out.there)); rfl; rfl; simp; intro wr6_4 hsr6_4; (try simp only [aP] at hsr6_4); (try simp only [aS] at hsr6_4); (try simp only [aZ] at hsr6_4)) | ((with_reducible apply st_store_own); assumption; rfl; (go_simp; rfl); (repeat (first | with_reducible exact Out.here _ | apply Out.there)); rfl; rfl; omega; intro wr6_4 hsr6_4))
    refine hKp.out _ _ ?_
    clear hKp Kp
    (try dsimp only [Act.put])
    refine pl_done ?_
    refine hK7.out _ _ ?_
    (try clear hK7 K7)
    refine wk_reg ?_
    iterate 2 (refine pl_take (v := ?_) rfl ?_ ?_; rotate_left; (· (go_simp; first | done | with_reducible rfl | rfl | omega | assumption | (simp; omega))); (try simp only [Act.put, aP, aZ, aS]))
    refine pl_done ?_
    show Code.rounds _ _ _ _ _ _
    rw [rounds_succ]
    refine wk_seq (fun K5 hK5 => ?_)
    refine wk_reg ?_
    refine pl_take (v := .bool true) rfl ?_ ?_
    · (go_simp; first | done | with_reducible rfl | rfl | omega | assumption | (simp; omega))
    (try simp only [Act.put, aP, aZ, aS])
    refine pl_done ?_
    refine hK5.out _ _ ?_
    (try clear hK5 K5)
    refine wk_seq (fun K6 hK6 => ?_)
    refine wp_cond_true rfl ?_
    refine wp_skip ?_
    refine hK6.out _ _ ?_
    (try clear hK6 K6)
    refine wk_seq (fun K7 hK7 => ?_)
    refine wp_block ?_
    refine wk_seq (fun K8 hK8 => ?_)
    refine wk_reg ?_
    iterate 2 (refine pl_take (v := ?_) rfl ?_ ?_; rotate_left; (· (go_simp; first | done | with_reducible rfl | rfl | omega | assumption | (simp; omega))); (try simp only [Act.put, aP, aZ, aS]))
    refine pl_done ?_
    refine hK8.out _ _ ?_
    (try clear hK8 K8)
    refine wk_reg ?_
    iterate 2 (refine pl_take (v := ?_) rfl ?_ ?_; rotate_left; (· (go_simp; first | done | with_reducible rfl | rfl | omega | assumption | (simp; omega))); (try simp only [Act.put, aP, aZ, aS]))
    refine pl_eff rfl (fun Kp hKp => ?_)
    go_simp
    (refine (c3 _ _ _ _ ((by assumption : Sat w0 _ _).pick (.cons (by (repeat (first | with_reducible exact Out.here _ | apply Out.there))) (.cons (by (repeat (first | with_reducible exact Out.here _ | apply Out.there))) (.tail _))))).mono ?_; rintro e19 w19 ⟨rfl, hs19⟩)
    (try go_wp2_with fail)
    refine hKp.out _ _ ?_
    clear hKp Kp
    (try simp only [Act.put, aP, aZ, aS])
    refine pl_take (v := ?_) rfl ?_ ?_
    rotate_left
    · (go_simp; first | done | with_reducible rfl | rfl | omega | assumption | (simp; omega))
    (try simp only [Act.put, aP, aZ, aS])
    refine pl_eff rfl (fun Kp hKp => ?_)
    (first | ((with_reducible apply st_store1); assumption; rfl; (go_simp; rfl); (repeat (first | with_reducible exact Out.here _ | apply Out.there)); rfl; rfl; simp; intro wr6_4 hsr6_4; (try simp only [aP] at hsr6_4); (try simp only [aS] at hsr6_4); (try simp only [aZ] at hsr6_4)) | ((with_reducible apply st_store_own); assumption; rfl; (go_simp; rfl); (repeat (first | with_reducible exact Out.here _ | apply Out.there)); rfl; rfl; omega; intro wr6_4 hsr6_4))
    refine hKp.out _ _ ?_
    clear hKp Kp
    (try dsimp only [Act.put])
    refine pl_done ?_
    refine hK7.out _ _ ?_
    (try clear hK7 K7)
    refine wk_reg ?_
    iterate 2 (refine pl_take (v := ?_) rfl ?_ ?_; rotate_left; (· (go_simp; first | done | with_reducible rfl | rfl | omega | assumption | (simp; omega))); (try simp only [Act.put, aP, aZ, aS]))
    refine pl_done ?_
    show Code.rounds _ _ _ _ _ _
    rw [rounds_succ]
    refine wk_seq (fun K5 hK5 => ?_)
    refine wk_reg ?_
    refine pl_take (v := .bool true) rfl ?_ ?_
    · (go_simp; first | done | with_reducible rfl | rfl | omega | assumption | (simp; omega))
    (try simp only [Act.put, aP, aZ, aS])
    refine pl_done ?_
    refine hK5.out _ _ ?_
    (try clear hK5 K5)
    refine wk_seq (fun K6 hK6 => ?_)
    refine wp_cond_true rfl ?_
    refine wp_skip ?_
    refine hK6.out _ _ ?_
    (try clear hK6 K6)
    refine wk_seq (fun K7 hK7 => ?_)
    refine wp_block ?_
    refine wk_seq (fun K8 hK8 => ?_)
    refine wk_reg ?_
    iterate 2 (refine pl_take (v := ?_) rfl ?_ ?_; rotate_left; (· (go_simp; first | done | with_reducible rfl | rfl | omega | assumption | (simp; omega))); (try simp only [Act.put, aP, aZ, aS]))
    refine pl_done ?_
    refine hK8.out _ _ ?_
    (try clear hK8 K8)
    refine wk_reg ?_
    iterate 2 (refine pl_take (v := ?_) rfl ?_ ?_; rotate_left; (· (go_simp; first | done | with_reducible rfl | rfl | omega | assumption | (simp; omega))); (try simp only [Act.put, aP, aZ, aS]))
    refine pl_eff rfl (fun Kp hKp => ?_)
    go_simp
    (refine (c4 _ _ _ _ ((by assumption : Sat w0 _ _).pick (.cons (by (repeat (first | with_reducible exact Out.here _ | apply Out.there))) (.cons (by (repeat (first | with_reducible exact Out.here _ | apply Out.there))) (.tail _))))).mono ?_; rintro e19 w19 ⟨rfl, hs19⟩)
    (try go_wp2_with fail)
    refine hKp.out _ _ ?_
    clear hKp Kp
    (try simp only [Act.put, aP, aZ, aS])
    refine pl_take (v := ?_) rfl ?_ ?_
    rotate_left
    · (go_simp; first | done | with_reducible rfl | rfl | omega | assumption | (simp; omega))
    (try simp only [Act.put, aP, aZ, aS])
    refine pl_eff rfl (fun Kp hKp => ?_)
    (first | ((with_reducible apply st_store1); assumption; rfl; (go_simp; rfl); (repeat (first | with_reducible exact Out.here _ | apply Out.there)); rfl; rfl; simp; intro wr6_4 hsr6_4; (try simp only [aP] at hsr6_4); (try simp only [aS] at hsr6_4); (try simp only [aZ] at hsr6_4)) | ((with_reducible apply st_store_own); assumption; rfl; (go_simp; rfl); (repeat (first | with_reducible exact Out.here _ | apply Out.there)); rfl; rfl; omega; intro wr6_4 hsr6_4))
    refine hKp.out _ _ ?_
    clear hKp Kp
    (try dsimp only [Act.put])
    refine pl_done ?_
    refine hK7.out _ _ ?_
    (try clear hK7 K7)
    refine wk_reg ?_
    iterate 2 (refine pl_take (v := ?_) rfl ?_ ?_; rotate_left; (· (go_simp; first | done | with_reducible rfl | rfl | omega | assumption | (simp; omega))); (try simp only [Act.put, aP, aZ, aS]))
    refine pl_done ?_
    show Code.rounds _ _ _ _ _ _
    rw [rounds_succ]
    refine wk_seq (fun K5 hK5 => ?_)
    refine wk_reg ?_
    refine pl_take (v := .bool true) rfl ?_ ?_
    · (go_simp; first | done | with_reducible rfl | rfl | omega | assumption | (simp; omega))
    (try simp only [Act.put, aP, aZ, aS])
    refine pl_done ?_
    refine hK5.out _ _ ?_
    (try clear hK5 K5)
    refine wk_seq (fun K6 hK6 => ?_)
    refine wp_cond_true rfl ?_
    refine wp_skip ?_
    refine hK6.out _ _ ?_
    (try clear hK6 K6)
    refine wk_seq (fun K7 hK7 => ?_)
    refine wp_block ?_
    refine wk_seq (fun K8 hK8 => ?_)
    refine wk_reg ?_
    iterate 2 (refine pl_take (v := ?_) rfl ?_ ?_; rotate_left; (· (go_simp; first | done | with_reducible rfl | rfl | omega | assumption | (simp; omega))); (try simp only [Act.put, aP, aZ, aS]))
    refine pl_done ?_
    refine hK8.out _ _ ?_
    (try clear hK8 K8)
    refine wk_reg ?_
    iterate 2 (refine pl_take (v := ?_) rfl ?_ ?_; rotate_left; (· (go_simp; first | done | with_reducible rfl | rfl | omega | assumption | (simp; omega))); (try simp only [Act.put, aP, aZ, aS]))
    refine pl_eff rfl (fun Kp hKp => ?_)
    go_simp
    (refine (c5 _ _ _ _ ((by assumption : Sat w0 _ _).pick (.cons (by (repeat (first | with_reducible exact Out.here _ | apply Out.there))) (.cons (by (repeat (first | with_reducible exact Out.here _ | apply Out.there))) (.tail _))))).mono ?_; rintro e19 w19 ⟨rfl, hs19⟩)
    (try go_wp2_with fail)
    refine hKp.out _ _ ?_
    clear hKp Kp
    (try simp only [Act.put, aP, aZ, aS])
    refine pl_take (v := ?_) rfl ?_ ?_
    rotate_left
    · (go_simp; first | done | with_reducible rfl | rfl | omega | assumption | (simp; omega))
    (try simp only [Act.put, aP, aZ, aS])
    refine pl_eff rfl (fun Kp hKp => ?_)
    (first | ((with_reducible apply st_store1); assumption; rfl; (go_simp; rfl); (repeat (first | with_reducible exact Out.here _ | apply Out.there)); rfl; rfl; simp; intro wr6_4 hsr6_4; (try simp only [aP] at hsr6_4); (try simp only [aS] at hsr6_4); (try simp only [aZ] at hsr6_4)) | ((with_reducible apply st_store_own); assumption; rfl; (go_simp; rfl); (repeat (first | with_reducible exact Out.here _ | apply Out.there)); rfl; rfl; omega; intro wr6_4 hsr6_4))
    refine hKp.out _ _ ?_
    clear hKp Kp
    (try dsimp only [Act.put])
    refine pl_done ?_
    refine hK7.out _ _ ?_
    (try clear hK7 K7)
    refine wk_reg ?_
    iterate 2 (refine pl_take (v := ?_) rfl ?_ ?_; rotate_left; (· (go_simp; first | done | with_reducible rfl | rfl | omega | assumption | (simp; omega))); (try simp only [Act.put, aP, aZ, aS]))
    refine pl_done ?_
    show Code.rounds _ _ _ _ _ _
    rw [rounds_succ]
    refine wk_seq (fun K5 hK5 => ?_)
    refine wk_reg ?_
    refine pl_take (v := .bool true) rfl ?_ ?_
    · (go_simp; first | done | with_reducible rfl | rfl | omega | assumption | (simp; omega))
    (try simp only [Act.put, aP, aZ, aS])
    refine pl_done ?_
    refine hK5.out _ _ ?_
    (try clear hK5 K5)
    refine wk_seq (fun K6 hK6 => ?_)
    refine wp_cond_true rfl ?_
    refine wp_skip ?_
    refine hK6.out _ _ ?_
    (try clear hK6 K6)
    refine wk_seq (fun K7 hK7 => ?_)
    refine wp_block ?_
    refine wk_seq (fun K8 hK8 => ?_)
    refine wk_reg ?_
    iterate 2 (refine pl_take (v := ?_) rfl ?_ ?_; rotate_left; (· (go_simp; first | done | with_reducible rfl | rfl | omega | assumption | (simp; omega))); (try simp only [Act.put, aP, aZ, aS]))
    refine pl_done ?_
    refine hK8.out _ _ ?_
    (try clear hK8 K8)
    refine wk_reg ?_
    iterate 2 (refine pl_take (v := ?_) rfl ?_ ?_; rotate_left; (· (go_simp; first | done | with_reducible rfl | rfl | omega | assumption | (simp; omega))); (try simp only [Act.put, aP, aZ, aS]))
    refine pl_eff rfl (fun Kp hKp => ?_)
    go_simp
    (refine (c6 _ _ _ _ ((by assumption : Sat w0 _ _).pick (.cons (by (repeat (first | with_reducible exact Out.here _ | apply Out.there))) (.cons (by (repeat (first | with_reducible exact Out.here _ | apply Out.there))) (.tail _))))).mono ?_; rintro e19 w19 ⟨rfl, hs19⟩)
    (try go_wp2_with fail)
    refine hKp.out _ _ ?_
    clear hKp Kp
    (try simp only [Act.put, aP, aZ, aS])
    refine pl_take (v := ?_) rfl ?_ ?_
    rotate_left
    · (go_simp; first | done | with_reducible rfl | rfl | omega | assumption | (simp; omega))
    (try simp only [Act.put, aP, aZ, aS])
    refine pl_eff rfl (fun Kp hKp => ?_)
    (first | ((with_reducible apply st_store1); assumption; rfl; (go_simp; rfl); (repeat (first | with_reducible exact Out.here _ | apply Out.there)); rfl; rfl; simp; intro wr6_4 hsr6_4; (try simp only [aP] at hsr6_4); (try simp only [aS] at hsr6_4); (try simp only [aZ] at hsr6_4)) | ((with_reducible apply st_store_own); assumption; rfl; (go_simp; rfl); (repeat (first | with_reducible exact Out.here _ | apply Out.there)); rfl; rfl; omega; intro wr6_4 hsr6_4))
    refine hKp.out _ _ ?_
    clear hKp Kp
    (try dsimp only [Act.put])
    refine pl_done ?_
    refine hK7.out _ _ ?_
    (try clear hK7 K7)
    refine wk_reg ?_
    iterate 2 (refine pl_take (v := ?_) rfl ?_ ?_; rotate_left; (· (go_simp; first | done | with_reducible rfl | rfl | omega | assumption | (simp; omega))); (try simp only [Act.put, aP, aZ, aS]))
    refine pl_done ?_
    show Code.rounds _ _ _ _ _ _
    rw [rounds_succ]
    refine wk_seq (fun K5 hK5 => ?_)
    refine wk_reg ?_
    refine pl_take (v := .bool true) rfl ?_ ?_
    · (go_simp; first | done | with_reducible rfl | rfl | omega | assumption | (simp; omega))
    (try simp only [Act.put, aP, aZ, aS])
    refine pl_done ?_
    refine hK5.out _ _ ?_
    (try clear hK5 K5)
    refine wk_seq (fun K6 hK6 => ?_)
    refine wp_cond_true rfl ?_
    refine wp_skip ?_
    refine hK6.out _ _ ?_
    (try clear hK6 K6)
    refine wk_seq (fun K7 hK7 => ?_)
    refine wp_block ?_
    refine wk_seq (fun K8 hK8 => ?_)
    refine wk_reg ?_
    iterate 2 (refine pl_take (v := ?_) rfl ?_ ?_; rotate_left; (· (go_simp; first | done | with_reducible rfl | rfl | omega | assumption | (simp; omega))); (try simp only [Act.put, aP, aZ, aS]))
    refine pl_done ?_
    refine hK8.out _ _ ?_
    (try clear hK8 K8)
    refine wk_reg ?_
    iterate 2 (refine pl_take (v := ?_) rfl ?_ ?_; rotate_left; (· (go_simp; first | done | with_reducible rfl | rfl | omega | assumption | (simp; omega))); (try simp only [Act.put, aP, aZ, aS]))
    refine pl_eff rfl (fun Kp hKp => ?_)
    go_simp
    (refine (c7 _ _ _ _ ((by assumption : Sat w0 _ _).pick (.cons (by (repeat (first | with_reducible exact Out.here _ | apply Out.there))) (.cons (by (repeat (first | with_reducible exact Out.here _ | apply Out.there))) (.tail _))))).mono ?_; rintro e19 w19 ⟨rfl, hs19⟩)
    (try go_wp2_with fail)
    refine hKp.out _ _ ?_
    clear hKp Kp
    (try simp only [Act.put, aP, aZ, aS])
    refine pl_take (v := ?_) rfl ?_ ?_
    rotate_left
    · (go_simp; first | done | with_reducible rfl | rfl | omega | assumption | (simp; omega))
    (try simp only [Act.put, aP, aZ, aS])
    refine pl_eff rfl (fun Kp hKp => ?_)
    (first | ((with_reducible apply st_store1); assumption; rfl; (go_simp; rfl); (repeat (first | with_reducible exact Out.here _ | apply Out.there)); rfl; rfl; simp; intro wr6_4 hsr6_4; (try simp only [aP] at hsr6_4); (try simp only [aS] at hsr6_4); (try simp only [aZ] at hsr6_4)) | ((with_reducible apply st_store_own); assumption; rfl; (go_simp; rfl); (repeat (first | with_reducible exact Out.here _ | apply Out.there)); rfl; rfl; omega; intro wr6_4 hsr6_4))
    refine hKp.out _ _ ?_
    clear hKp Kp
    (try dsimp only [Act.put])
    refine pl_done ?_
    refine hK7.out _ _ ?_
    (try clear hK7 K7)
    refine wk_reg ?_
    iterate 2 (refine pl_take (v := ?_) rfl ?_ ?_; rotate_left; (· (go_simp; first | done | with_reducible rfl | rfl | omega | assumption | (simp; omega))); (try simp only [Act.put, aP, aZ, aS]))
    refine pl_done ?_
    show Code.rounds _ _ _ _ _ _
    rw [rounds_succ]
    refine wk_seq (fun K5 hK5 => ?_)
    refine wk_reg ?_
    refine pl_take (v := .bool true) rfl ?_ ?_
    · (go_simp; first | done | with_reducible rfl | rfl | omega | assumption | (simp; omega))
    (try simp only [Act.put, aP, aZ, aS])
    refine pl_done ?_
    refine hK5.out _ _ ?_
    (try clear hK5 K5)
    refine wk_seq (fun K6 hK6 => ?_)
    refine wp_cond_true rfl ?_
    refine wp_skip ?_
    refine hK6.out _ _ ?_
    (try clear hK6 K6)
    refine wk_seq (fun K7 hK7 => ?_)
    refine wp_block ?_
    refine wk_seq (fun K8 hK8 => ?_)
    refine wk_reg ?_
    iterate 2 (refine pl_take (v := ?_) rfl ?_ ?_; rotate_left; (· (go_simp; first | done | with_reducible rfl | rfl | omega | assumption | (simp; omega))); (try simp only [Act.put, aP, aZ, aS]))
    refine pl_done ?_
    refine hK8.out _ _ ?_
    (try clear hK8 K8)
    refine wk_reg ?_
    iterate 2 (refine pl_take (v := ?_) rfl ?_ ?_; rotate_left; (· (go_simp; first | done | with_reducible rfl | rfl | omega | assumption | (simp; omega))); (try simp only [Act.put, aP, aZ, aS]))
    refine pl_eff rfl (fun Kp hKp => ?_)
    go_simp
    (refine (c8 _ _ _ _ ((by assumption : Sat w0 _ _).pick (.cons (by (repeat (first | with_reducible exact Out.here _ | apply Out.there))) (.cons (by (repeat (first | with_reducible exact Out.here _ | apply Out.there))) (.tail _))))).mono ?_; rintro e19 w19 ⟨rfl, hs19⟩)
    (try go_wp2_with fail)
    refine hKp.out _ _ ?_
    clear hKp Kp
    (try simp only [Act.put, aP, aZ, aS])
    refine pl_take (v := ?_) rfl ?_ ?_
    rotate_left
    · (go_simp; first | done | with_reducible rfl | rfl | omega | assumption | (simp; omega))
    (try simp only [Act.put, aP, aZ, aS])
    refine pl_eff rfl (fun Kp hKp => ?_)
    (first | ((with_reducible apply st_store1); assumption; rfl; (go_simp; rfl); (repeat (first | with_reducible exact Out.here _ | apply Out.there)); rfl; rfl; simp; intro wr6_4 hsr6_4; (try simp only [aP] at hsr6_4); (try simp only [aS] at hsr6_4); (try simp only [aZ] at hsr6_4)) | ((with_reducible apply st_store_own); assumption; rfl; (go_simp; rfl); (repeat (first | with_reducible exact Out.here _ | apply Out.there)); rfl; rfl; omega; intro wr6_4 hsr6_4))
    refine hKp.out _ _ ?_
    clear hKp Kp
    (try dsimp only [Act.put])
    refine pl_done ?_
    refine hK7.out _ _ ?_
    (try clear hK7 K7)
    refine wk_reg ?_
    iterate 2 (refine pl_take (v := ?_) rfl ?_ ?_; rotate_left; (· (go_simp; first | done | with_reducible rfl | rfl | omega | assumption | (simp; omega))); (try simp only [Act.put, aP, aZ, aS]))
    refine pl_done ?_
    show Code.rounds _ _ _ _ _ _
    rw [rounds_succ]
    refine wk_seq (fun K5 hK5 => ?_)
    refine wk_reg ?_
    refine pl_take (v := .bool false) rfl ?_ ?_
    · (go_simp; first | done | with_reducible rfl | rfl | omega | assumption | (simp; omega))
    (try simp only [Act.put, aP, aZ, aS])
    refine pl_done ?_
    refine hK5.out _ _ ?_
    (try clear hK5 K5)
    refine wk_seq (fun K6 hK6 => ?_)
    refine wp_cond_false rfl ?_
    refine wp_exit ?_
    refine (by assumption : ∀ a' w', Met _ a' w' → _) _ _ ?_
    go_meet
    case rel => exact (by assumption : Sat w0 _ _).pick (by (repeat (first | exact Pick.nil _ | exact Pick.tail _ | exact Out.here _ | apply Out.there | apply Pick.cons | apply Pick.drop)))
  case rest =>
    clear c1 c2 c3 c4 c5 c6 c7 c8
    refine hK3.out _ _ ?_
    clear hK3 K3
    refine wk_seq (fun K9 hK9 => ?_)
    refine wk_reg ?_
    refine pl_take (v := ?_) rfl ?_ ?_
    rotate_left
    · (go_simp; first | done | with_reducible rfl | rfl | omega | assumption | (simp; omega))
    (try simp only [Act.put, aP, aZ, aS])
    refine pl_eff rfl (fun Kp hKp => ?_)
    go_simp
    (refine (c9 _ _ _ _ ((by assumption : Sat w0 _ _).pick (.cons (by (repeat (first | with_reducible exact Out.here _ | apply Out.there))) (.cons (by (repeat (first | with_reducible exact Out.here _ | apply Out.there))) (.tail _))))).mono ?_; rintro e23 w23 ⟨rfl, hs23⟩)
    (try go_wp2_with fail)
    refine hKp.out _ _ ?_
    clear hKp Kp
    (try simp only [Act.put, aP, aZ, aS])
    refine pl_take (v := ?_) rfl ?_ ?_
    rotate_left
    · (go_simp; first | done | with_reducible rfl | rfl | omega | assumption | (simp; omega))
    (try simp only [Act.put, aP, aZ, aS])
    refine pl_done ?_
    refine hK9.out _ _ ?_
    (try clear hK9 K9)
    refine wk_seq (fun K10 hK10 => ?_)
    refine wk_reg ?_
    refine pl_take (v := ?_) rfl ?_ ?_
    rotate_left
    · (go_simp; first | done | with_reducible rfl | rfl | omega | assumption | (simp; omega))
    (try simp only [Act.put, aP, aZ, aS])
    by_cases k9 : n9 ≤ 1
    rotate_left
    · refine pl_take (v := .bool false) rfl ?_ ?_
      · (go_simp; first | done | with_reducible rfl | rfl | omega | assumption | (simp; omega))
      (try simp only [Act.put, aP, aZ, aS])
      refine pl_eff rfl (fun Kp hKp => ?_)
      go_simp
      ((refine (demand_bad _).mono ?_); rintro e26 w26 ⟨rfl, rfl⟩)
      -- it panics
      obtain rfl : X = (zeroMsg, 21) := by rw [← HX.out]; exact getMsg_yes HM.out k9
      exact get_caught (px := b2) (pe := b3) 21 rfl rfl ((by assumption : Sat w0 _ _).pick (by (repeat (first | exact Pick.nil _ | exact Pick.tail _ | exact Out.here _ | apply Out.there | apply Pick.cons | apply Pick.drop))))
    refine pl_take (v := .bool true) rfl ?_ ?_
    · (go_simp; first | done | with_reducible rfl | rfl | omega | assumption | (simp; omega))
    (try simp only [Act.put, aP, aZ, aS])
    refine pl_eff rfl (fun Kp hKp => ?_)
    go_simp
    ((refine (demand_ok _).mono ?_); rintro e26 w26 ⟨rfl, rfl⟩)
    (try go_wp2_with fail)
    refine hKp.out _ _ ?_
    clear hKp Kp
    (try simp only [Act.put, aP, aZ, aS])
    refine pl_done ?_
    refine hK10.out _ _ ?_
    (try clear hK10 K10)
    refine wk_seq (fun K11 hK11 => ?_)
    refine wk_reg ?_
    iterate 3 (refine pl_take (v := ?_) rfl ?_ ?_; rotate_left; (· (go_simp; first | done | with_reducible rfl | rfl | omega | assumption | (simp; omega))); (try simp only [Act.put, aP, aZ, aS]))
    refine pl_eff rfl (fun Kp hKp => ?_)
    (first | ((with_reducible apply st_store1); assumption; rfl; (go_simp; rfl); (repeat (first | with_reducible exact Out.here _ | apply Out.there)); rfl; rfl; simp; intro wr10_3 hsr10_3; (try simp only [aP] at hsr10_3); (try simp only [aS] at hsr10_3); (try simp only [aZ] at hsr10_3)) | ((with_reducible apply st_store_own); assumption; rfl; (go_simp; rfl); (repeat (first | with_reducible exact Out.here _ | apply Out.there)); rfl; rfl; omega; intro wr10_3 hsr10_3))
    refine hKp.out _ _ ?_
    clear hKp Kp
    (try dsimp only [Act.put])
    refine pl_done ?_
    refine hK11.out _ _ ?_
    (try clear hK11 K11)
    refine wk_seq (fun K12 hK12 => ?_)
    -- at a cut
    clear c9
    go_cut [] from 30 to 72 (fun w => ∃ (es : List Ent) (sv : List Int) (dt : List UInt8) (ys : List (Ent × Option Addr × Nat)) (A9 B9 C9 : Option Addr) (ca9 cb9 cc9 : Nat) (ef : Int) (rf : List UInt8), ys.map (·.1) = es ∧ es.length ≤ 8 ∧ sv.length ≤ 7 ∧ dt.length ≤ 4194304 ∧ Hid (X = finish ⟨n1, n2, n3, n4, n5, n6, n7, n8, yes, es, sv, dt⟩ ef rf) ∧ Hid (es.all rightE = true) ∧ Hid (n1 = 5 → okServers sv = true) ∧ Sat w0 w (own 41 4 A9 ca9 es.length (entsCells ys) :: DV (entsData ys) :: own 3 1 B9 cb9 sv.length (I8 sv) :: own 5 1 C9 cc9 dt.length (B8 dt) :: blk b2 (.cells #[.int .i64 n1, .int .i64 n2, .int .i64 n3, .int .i64 n4, .int .i64 n5, .int .i64 n6, .int .i64 n7, .int .i64 n8, .bool yes, .slice A9 es.length ca9, .slice B9 sv.length cb9, .slice C9 dt.length cc9] 27 (0, 0)) :: blk b3 (.cells #[.int .i64 0] 29 (0, 0)) :: Rd1 bx p ef rf :: bx :: L))
    case rest =>
      obtain ⟨es, sv, dt, ys, A9, B9, C9, ca9, cb9, cc9, ef, rf, hys, he, hv, hd, HX2, Hr, H5, hsA⟩ := hcut
      obtain ⟨E, hE⟩ : ∃ E, rdEnd ef rf = E := ⟨_, rfl⟩
      obtain ⟨R, hR2⟩ : ∃ R, rightP ⟨n1, n2, n3, n4, n5, n6, n7, n8, yes, es, sv, dt⟩ = R := ⟨_, rfl⟩
      have hX3 : X = if E = 0 ∧ R = true then (⟨n1, n2, n3, n4, n5, n6, n7, n8, yes, es, sv, dt⟩, 0) else (zeroMsg, 21) := by
        rw [HX2.out, finish_right Hr.out H5.out, hE, hR2]
      have cE := fun (w : World) (L : List HP) (buf : HP) (p : Nat) (hs : Sat w0 w (Rd1 buf p ef rf :: L)) => end_spec hs
      rw [hE] at cE
      have cR := fun (w : World) (L : List HP) (A B C : Option Addr) (ca cb cc : Nat) (hs : Sat w0 w L) => right_m_spec (A := A) (B := B) (C := C) (ca := ca) (cb := cb) (cc := cc) 21 n1 n2 n3 n4 n5 n6 n7 n8 yes es sv dt (by omega) (by omega) hd hs
      rw [hR2] at cR
      clear hE hR2 hyes
      by_cases hE0 : E = 0
      · subst hE0
        cases R with
        | true =>
          obtain rfl : X = (⟨n1, n2, n3, n4, n5, n6, n7, n8, yes, es, sv, dt⟩, 0) := by rw [hX3]; simp
          clear hX3
          refine hK12.out _ _ ?_
          clear hK12 K12
          refine wk_seq (fun K26 hK26 => ?_)
          refine wk_reg ?_
          refine pl_take (v := ?_) rfl ?_ ?_
          rotate_left
          · (go_simp; first | done | with_reducible rfl | rfl | omega | assumption | (simp; omega))
          (try simp only [Act.put, aP, aZ, aS])
          refine pl_eff rfl (fun Kp hKp => ?_)
          go_simp
          (refine (cE _ _ _ _ ((by assumption : Sat w0 _ _).pick (.cons (by (repeat (first | with_reducible exact Out.here _ | apply Out.there))) (.tail _)))).mono ?_; rintro e74 w74 ⟨rfl, rfl⟩)
          (try go_wp2_with fail)
          refine hKp.out _ _ ?_
          clear hKp Kp
          (try simp only [Act.put, aP, aZ, aS])
          refine pl_take (v := .bool true) rfl ?_ ?_
          · (go_simp; first | done | with_reducible rfl | rfl | omega | assumption | (simp; omega))
          (try simp only [Act.put, aP, aZ, aS])
          refine pl_eff rfl (fun Kp hKp => ?_)
          go_simp
          ((refine (demand_ok _).mono ?_); rintro e76 w76 ⟨rfl, rfl⟩)
          (try go_wp2_with fail)
          refine hKp.out _ _ ?_
          clear hKp Kp
          (try simp only [Act.put, aP, aZ, aS])
          refine pl_done ?_
          refine hK26.out _ _ ?_
          (try clear hK26 K26)
          refine wk_seq (fun K27 hK27 => ?_)
          refine wk_reg ?_
          refine pl_take (v := ?_) rfl ?_ ?_
          rotate_left
          · (first | ((with_reducible apply yl_loadAgg); assumption; rfl; (repeat (first | with_reducible exact Out.here _ | apply Out.there)); (simp); rfl; rfl) | ((with_reducible apply yl_loadAggR); assumption; rfl; (repeat (first | with_reducible assumption | with_reducible exact Rd.own | with_reducible exact Rd.nil | with_reducible apply Rd.cons)); rfl))
          (try simp only [Act.put, aP, aZ, aS])
          refine pl_eff rfl (fun Kp hKp => ?_)
          go_simp
          (refine (cR _ _ _ _ _ _ _ _ (by assumption)).mono ?_; rintro e78 w78 ⟨rfl, hs78⟩)
          (try go_wp2_with fail)
          refine hKp.out _ _ ?_
          clear hKp Kp
          (try simp only [Act.put, aP, aZ, aS])
          refine pl_done ?_
          refine hK27.out _ _ ?_
          (try clear hK27 K27)
          refine wk_seq (fun K28 hK28 => ?_)
          refine wk_reg ?_
          refine pl_take (v := ?_) rfl ?_ ?_
          rotate_left
          · (first | ((with_reducible apply yl_loadAgg); assumption; rfl; (repeat (first | with_reducible exact Out.here _ | apply Out.there)); (simp); rfl; rfl) | ((with_reducible apply yl_loadAggR); assumption; rfl; (repeat (first | with_reducible assumption | with_reducible exact Rd.own | with_reducible exact Rd.nil | with_reducible apply Rd.cons)); rfl))
          (try simp only [Act.put, aP, aZ, aS])
          refine pl_eff rfl (fun Kp hKp => ?_)
          (first | ((with_reducible apply st_storeAll); assumption; rfl; (go_simp; rfl); (repeat (first | with_reducible exact Out.here _ | apply Out.there)); rfl; (focus (first | (simp [Value.oneCell']; done) | (simp [Value.cells, Value.oneCell']; done))); rfl; intro wr27_1 hsr27_1; simp only [Value.cells] at hsr27_1) | ((with_reducible apply st_store); assumption; rfl; (go_simp; rfl); (repeat (first | with_reducible exact Out.here _ | apply Out.there)); rfl; (first | (focus (simp [Value.oneCell']; done)) | (simp [Value.cells, Value.oneCell'])); (first | (focus (simp; done)) | (simp [Value.cells])); intro wr27_1 hsr27_1; simp only [upd, Value.cells] at hsr27_1))
          refine hKp.out _ _ ?_
          clear hKp Kp
          (try dsimp only [Act.put])
          refine pl_eff rfl (fun Kp hKp => ?_)
          (first | ((with_reducible apply st_store1); assumption; rfl; (go_simp; rfl); (repeat (first | with_reducible exact Out.here _ | apply Out.there)); rfl; rfl; simp; intro wr27_2 hsr27_2; (try simp only [aP] at hsr27_2); (try simp only [aS] at hsr27_2); (try simp only [aZ] at hsr27_2)) | ((with_reducible apply st_store_own); assumption; rfl; (go_simp; rfl); (repeat (first | with_reducible exact Out.here _ | apply Out.there)); rfl; rfl; omega; intro wr27_2 hsr27_2))
          refine hKp.out _ _ ?_
          clear hKp Kp
          (try dsimp only [Act.put])
          refine pl_done ?_
          refine hK28.out _ _ ?_
          (try clear hK28 K28)
          refine wp_ret ?_
          exact get_leaves (px := b2) (pe := b3) ⟨n1, n2, n3, n4, n5, n6, n7, n8, yes, es, sv, dt⟩ ys hys rfl rfl ((by assumption : Sat w0 _ _).pick (by simp only [msgCells]; (repeat (first | exact Pick.nil _ | exact Pick.tail _ | exact Out.here _ | apply Out.there | apply Pick.cons | apply Pick.drop))))
        | false =>
          obtain rfl : X = (zeroMsg, 21) := by rw [hX3]; simp
          clear hX3
          refine hK12.out _ _ ?_
          clear hK12 K12
          refine wk_seq (fun K26 hK26 => ?_)
          refine wk_reg ?_
          refine pl_take (v := ?_) rfl ?_ ?_
          rotate_left
          · (go_simp; first | done | with_reducible rfl | rfl | omega | assumption | (simp; omega))
          (try simp only [Act.put, aP, aZ, aS])
          refine pl_eff rfl (fun Kp hKp => ?_)
          go_simp
          (refine (cE _ _ _ _ ((by assumption : Sat w0 _ _).pick (.cons (by (repeat (first | with_reducible exact Out.here _ | apply Out.there))) (.tail _)))).mono ?_; rintro e74 w74 ⟨rfl, rfl⟩)
          (try go_wp2_with fail)
          refine hKp.out _ _ ?_
          clear hKp Kp
          (try simp only [Act.put, aP, aZ, aS])
          refine pl_take (v := .bool true) rfl ?_ ?_
          · (go_simp; first | done | with_reducible rfl | rfl | omega | assumption | (simp; omega))
          (try simp only [Act.put, aP, aZ, aS])
          refine pl_eff rfl (fun Kp hKp => ?_)
          go_simp
          ((refine (demand_ok _).mono ?_); rintro e76 w76 ⟨rfl, rfl⟩)
          (try go_wp2_with fail)
          refine hKp.out _ _ ?_
          clear hKp Kp
          (try simp only [Act.put, aP, aZ, aS])
          refine pl_done ?_
          refine hK26.out _ _ ?_
          (try clear hK26 K26)
          refine wk_seq (fun K27 hK27 => ?_)
          refine wk_reg ?_
          refine pl_take (v := ?_) rfl ?_ ?_
          rotate_left
          · (first | ((with_reducible apply yl_loadAgg); assumption; rfl; (repeat (first | with_reducible exact Out.here _ | apply Out.there)); (simp); rfl; rfl) | ((with_reducible apply yl_loadAggR); assumption; rfl; (repeat (first | with_reducible assumption | with_reducible exact Rd.own | with_reducible exact Rd.nil | with_reducible apply Rd.cons)); rfl))
          (try simp only [Act.put, aP, aZ, aS])
          refine pl_eff rfl (fun Kp hKp => ?_)
          go_simp
          (refine (cR _ _ _ _ _ _ _ _ (by assumption)).mono ?_; rintro e78 w78 ⟨rfl, hs78⟩)
          -- it panics
          exact get_caught (px := b2) (pe := b3) 21 rfl rfl ((by assumption : Sat w0 _ _).pick (by (repeat (first | exact Pick.nil _ | exact Pick.tail _ | exact Out.here _ | apply Out.there | apply Pick.cons | apply Pick.drop))))
      · obtain rfl : X = (zeroMsg, 21) := by rw [hX3]; simp [hE0]
        have hE1 : (E == 0) = false := by simp [hE0]
        clear hX3 hE0
        refine hK12.out _ _ ?_
        clear hK12 K12
        refine wk_seq (fun K26 hK26 => ?_)
        refine wk_reg ?_
        refine pl_take (v := ?_) rfl ?_ ?_
        rotate_left
        · (go_simp; first | done | with_reducible rfl | rfl | omega | assumption | (simp; omega))
        (try simp only [Act.put, aP, aZ, aS])
        refine pl_eff rfl (fun Kp hKp => ?_)
        go_simp
        (refine (cE _ _ _ _ ((by assumption : Sat w0 _ _).pick (.cons (by (repeat (first | with_reducible exact Out.here _ | apply Out.there))) (.tail _)))).mono ?_; rintro e74 w74 ⟨rfl, rfl⟩)
        (try go_wp2_with fail)
        refine hKp.out _ _ ?_
        clear hKp Kp
        (try simp only [Act.put, aP, aZ, aS])
        refine pl_take (v := .bool false) rfl ?_ ?_
        · (go_simp; first | done | with_reducible rfl | rfl | omega | assumption | (simp; omega))
        (try simp only [Act.put, aP, aZ, aS])
        refine pl_eff rfl (fun Kp hKp => ?_)
        go_simp
        ((refine (demand_bad _).mono ?_); rintro e76 w76 ⟨rfl, rfl⟩)
        -- it panics
        exact get_caught (px := b2) (pe := b3) 21 rfl rfl ((by assumption : Sat w0 _ _).pick (by (repeat (first | exact Pick.nil _ | exact Pick.tail _ | exact Out.here _ | apply Out.there | apply Pick.cons | apply Pick.drop))))
    case first =>
      by_cases k3 : n1 = 3
      · subst k3
        obtain ⟨⟨n, en, rn⟩, xn⟩ : ∃ x, rdNumber e9 r9 = x := ⟨_, rfl⟩
        have ln := (rdNumber_ok xn).2.2.1
        have q0 := (rdNumber_ok xn).1
        have cn := fun (w : World) (L : List HP) (buf : HP) (p : Nat) (hs : Sat w0 w (Rd1 buf p e9 r9 :: buf :: L)) => number_read e9 r9 (by omega) hs
        rw [xn] at cn
        by_cases k8 : n ≤ 8
        · obtain ⟨N, rfl⟩ : ∃ N : Nat, n = (N : Int) := ⟨n.toNat, by omega⟩
          have hmin : min ((N : Int).toNat) 9 = N := by omega
          have Hbad : Hid (∀ k zs ek rk, k < N → rdEnts (k + 1) en rn = (zs, ek, rk) → zs.all (fun y => y.2 == 0) = false → X = (zeroMsg, 21)) := Hid.mk' (fun k zs ek rk h1 h2 h3 => by
            obtain ⟨⟨zt, et, rt⟩, ht⟩ : ∃ x, rdEnts N en rn = x := ⟨_, rfl⟩
            have hb := rdEnts_bad (n := N) (k := k + 1) (e := en) (l := rn) (by omega) (by rw [h2]; exact h3)
            rw [ht] at hb
            rw [← HX.out, getMsg_three (zs := zt) (ez := et) (rz := rt) HM.out k9 rfl xn (by rw [hmin]; exact ht), hb]; rfl)
          have Hfin : Hid (∀ zs ek rk, rdEnts N en rn = (zs, ek, rk) → zs.all (fun y => y.2 == 0) = true → X = finish ⟨3, n2, n3, n4, n5, n6, n7, n8, yes, zs.map (·.1), [], []⟩ ek rk) := Hid.mk' (fun zs ek rk h1 h2 => by
            rw [← HX.out, getMsg_three (zs := zs) (ez := ek) (rz := rk) HM.out k9 rfl xn (by rw [hmin]; exact h1), if_pos h2, hyes])
          clear xn hmin
          refine wk_seq (fun K13 hK13 => ?_)
          refine wk_reg ?_
          iterate 2 (refine pl_take (v := ?_) rfl ?_ ?_; rotate_left; (· (first | ((with_reducible apply yl_load); assumption; rfl; (repeat (first | with_reducible assumption | ((with_reducible apply Cl.own); exact rfl) | ((with_reducible apply Cl.blkL); exact rfl) | with_reducible apply Cl.cons)); rfl) | (go_simp; first | done | with_reducible rfl | rfl | omega | assumption | (simp; omega)))); (try simp only [Act.put, aP, aZ, aS]))
          refine pl_done ?_
          refine hK13.out _ _ ?_
          (try clear hK13 K13)
          refine wp_block ?_
          refine wk_seq (fun K14 hK14 => ?_)
          refine wk_reg ?_
          iterate 2 (refine pl_take (v := .bool true) rfl ?_ ?_; (· (go_simp; first | done | with_reducible rfl | rfl | omega | assumption | (simp; omega))); (try simp only [Act.put, aP, aZ, aS]))
          refine pl_done ?_
          refine hK14.out _ _ ?_
          (try clear hK14 K14)
          refine wp_cond_true rfl ?_
          refine wk_seq (fun K15 hK15 => ?_)
          refine wk_reg ?_
          refine pl_take (v := ?_) rfl ?_ ?_
          rotate_left
          · (go_simp; first | done | with_reducible rfl | rfl | omega | assumption | (simp; omega))
          (try simp only [Act.put, aP, aZ, aS])
          refine pl_eff rfl (fun Kp hKp => ?_)
          go_simp
          (refine (cn _ _ _ _ ((by assumption : Sat w0 _ _).pick (.cons (by (repeat (first | with_reducible exact Out.here _ | apply Out.there))) (.cons (by (repeat (first | with_reducible exact Out.here _ | apply Out.there))) (.tail _))))).mono ?_; rintro e35 w35 ⟨rfl, hs35⟩)
          (try go_wp2_with fail)
          refine hKp.out _ _ ?_
          clear hKp Kp
          (try simp only [Act.put, aP, aZ, aS])
          refine pl_take (v := ?_) rfl ?_ ?_
          rotate_left
          · (go_simp; first | done | with_reducible rfl | rfl | omega | assumption | (simp; omega))
          (try simp only [Act.put, aP, aZ, aS])
          refine pl_done ?_
          refine hK15.out _ _ ?_
          (try clear hK15 K15)
          refine wk_seq (fun K16 hK16 => ?_)
          refine wk_reg ?_
          refine pl_take (v := ?_) rfl ?_ ?_
          rotate_left
          · (go_simp; first | done | with_reducible rfl | rfl | omega | assumption | (simp; omega))
          (try simp only [Act.put, aP, aZ, aS])
          refine pl_take (v := .bool true) rfl ?_ ?_
          · (go_simp; first | done | with_reducible rfl | rfl | omega | assumption | (simp; omega))
          (try simp only [Act.put, aP, aZ, aS])
          refine pl_eff rfl (fun Kp hKp => ?_)
          go_simp
          ((refine (demand_ok _).mono ?_); rintro e38 w38 ⟨rfl, rfl⟩)
          (try go_wp2_with fail)
          refine hKp.out _ _ ?_
          clear hKp Kp
          (try simp only [Act.put, aP, aZ, aS])
          refine pl_done ?_
          refine hK16.out _ _ ?_
          (try clear hK16 K16)
          refine wk_seq (fun K17 hK17 => ?_)
          refine wk_reg ?_
          iterate 2 (refine pl_take (v := ?_) rfl ?_ ?_; rotate_left; (· (go_simp; first | done | with_reducible rfl | rfl | omega | assumption | (simp; omega))); (try simp only [Act.put, aP, aZ, aS]))
          refine pl_done ?_
          refine hK17.out _ _ ?_
          (try clear hK17 K17)
          refine wp_block ?_
          -- at a loop
          go_loopw [40] (fun i wr => ∃ (k : Nat) (A4 : Option Addr) (c4 : Nat) (ys : List (Ent × Option Addr × Nat)) (ek : Int) (rk : List UInt8), i = .int .i64 k ∧ k ≤ N ∧ ys.length = k ∧ rk.length ≤ 4194304 ∧ Hid (rdEnts k en rn = (ys.map fun y => (y.1, 0), ek, rk)) ∧ Hid ((ys.map (·.1)).all rightE = true) ∧ Sat w0 wr (own 41 4 A4 c4 k (entsCells ys) :: DV (entsData ys) :: blk b2 (.cells #[.int .i64 3, .int .i64 n2, .int .i64 n3, .int .i64 n4, .int .i64 n5, .int .i64 n6, .int .i64 n7, .int .i64 n8, .bool yes, .slice A4 k c4, .slice none 0 0, .slice none 0 0] 27 (0, 0)) :: blk b3 (.cells #[.int .i64 0] 29 (0, 0)) :: Rd1 bx p ek rk :: bx :: L)) (fun i _ => N - (intOf i).toNat)
          case atStart => exact ⟨0, none, 0, [], en, rn, rfl, Nat.zero_le _, rfl, by omega, rfl, rfl, (((by assumption : Sat w0 _ _).own_nil 41 4).dv_nil).pick (by (repeat (first | exact Pick.nil _ | exact Pick.tail _ | exact Out.here _ | apply Out.there | apply Pick.cons | apply Pick.drop)))⟩
          case round =>
            obtain ⟨k, A4, c4, ys, ek, rk, rfl, hk, hyl, hrl, Hk, Hr, hsC⟩ := hrel
            by_cases hlt : k < N
            · obtain ⟨⟨y, ev, rv⟩, xv⟩ : ∃ x, rdBytes ek rk = x := ⟨_, rfl⟩
              obtain ⟨lv1, lv2⟩ := rdBytes_len xv
              obtain ⟨⟨⟨t, i, q, d⟩, g⟩, xg⟩ : ∃ x, getEntry y = x := ⟨_, rfl⟩
              have cv := fun (w : World) (L : List HP) (buf : HP) (p : Nat) (hs : Sat w0 w (Rd1 buf p ek rk :: buf :: L)) => bytes_read ek rk (by omega) hs
              rw [xv] at cv
              have cg := fun (w : World) (L : List HP) (A : Option Addr) (c : Nat) (hs : Sat w0 w L) (hR : Rd w0 L A y.length 1 (B8 y)) => getEntry_spec (c := c) y (by omega) hs hR
              rw [xg] at cg
              have i0 : (0 : Int) ≤ (k : Int) := by omega
              have i1 : (k : Int) < (N : Int) := by omega
              have hwk : IntKind.i64.wrap ((k : Int) + 1) = (k : Int) + 1 := IntWalk.i64_in _ (by omega)
              have Hk2 : Hid (rdEnts (k + 1) en rn = ((ys.map fun y => (y.1, 0)) ++ [(⟨t, i, q, d⟩, g)], ev, rv)) := by
                unfold Hid; rw [rdEnts_succ, Hk.out]; simp only [xv, xg]
              by_cases g0 : g = 0
              · subst g0
                have hre := (getEntry_back xg).1
                have Hr2 : Hid (((ys.map fun y => y.1) ++ [(⟨t, i, q, d⟩ : Ent)]).all rightE = true) := by unfold Hid; rw [List.all_append, Hr.out]; simp [hre]
                clear xv xg hre Hk Hr
                refine wk_seq (fun K18 hK18 => ?_)
                refine wk_reg ?_
                refine pl_take (v := .bool true) rfl ?_ ?_
                · (go_simp; first | done | with_reducible rfl | rfl | omega | assumption | (simp; omega))
                (try simp only [Act.put, aP, aZ, aS])
                refine pl_done ?_
                refine hK18.out _ _ ?_
                (try clear hK18 K18)
                refine wk_seq (fun K19 hK19 => ?_)
                refine wp_cond_true rfl ?_
                refine wp_skip ?_
                refine hK19.out _ _ ?_
                (try clear hK19 K19)
                refine wk_seq (fun K20 hK20 => ?_)
                refine wp_block ?_
                refine wk_seq (fun K21 hK21 => ?_)
                refine wk_reg ?_
                refine pl_take (v := ?_) rfl ?_ ?_
                rotate_left
                · (go_simp; first | done | with_reducible rfl | rfl | omega | assumption | (simp; omega))
                (try simp only [Act.put, aP, aZ, aS])
                refine pl_eff rfl (fun Kp hKp => ?_)
                go_simp
                (refine (cv _ _ _ _ ((by assumption : Sat w0 _ _).pick (.cons (by (repeat (first | with_reducible exact Out.here _ | apply Out.there))) (.cons (by (repeat (first | with_reducible exact Out.here _ | apply Out.there))) (.tail _))))).mono ?_; rintro e44 w44 ⟨A44, c44, rfl, hs44⟩)
                (try go_wp2_with fail)
                refine hKp.out _ _ ?_
                clear hKp Kp
                (try simp only [Act.put, aP, aZ, aS])
                refine pl_eff rfl (fun Kp hKp => ?_)
                go_simp
                (refine (cg _ _ _ _ (by assumption) (by (repeat (first | with_reducible assumption | with_reducible exact Rd.own | with_reducible exact Rd.nil | with_reducible apply Rd.cons)))).mono ?_; rintro e45 w45 ⟨A45, c45, rfl, hs45⟩)
                (try go_wp2_with fail)
                refine hKp.out _ _ ?_
                clear hKp Kp
                (try simp only [Act.put, aP, aZ, aS])
                iterate 3 (refine pl_take (v := ?_) rfl ?_ ?_; rotate_left; (· (go_simp; first | done | with_reducible rfl | rfl | omega | assumption | (simp; omega))); (try simp only [Act.put, aP, aZ, aS]))
                refine pl_eff rfl (fun Kp hKp => ?_)
                ((with_reducible apply st_alloc); assumption; intro b9 w9 hs9; simp only [Value.cells] at hs9)
                refine hKp.out _ _ ?_
                clear hKp Kp
                (try simp only [Act.put, aP, aZ, aS])
                refine pl_eff rfl (fun Kp hKp => ?_)
                (first | ((with_reducible apply st_storeAll); assumption; rfl; (go_simp; rfl); (repeat (first | with_reducible exact Out.here _ | apply Out.there)); rfl; (focus (first | (simp [Value.oneCell']; done) | (simp [Value.cells, Value.oneCell']; done))); rfl; intro wr17_7 hsr17_7; simp only [Value.cells] at hsr17_7) | ((with_reducible apply st_store); assumption; rfl; (go_simp; rfl); (repeat (first | with_reducible exact Out.here _ | apply Out.there)); rfl; (first | (focus (simp [Value.oneCell']; done)) | (simp [Value.cells, Value.oneCell'])); (first | (focus (simp; done)) | (simp [Value.cells])); intro wr17_7 hsr17_7; simp only [upd, Value.cells] at hsr17_7))
                refine hKp.out _ _ ?_
                clear hKp Kp
                (try dsimp only [Act.put])
                refine pl_take (v := ?_) rfl ?_ ?_
                rotate_left
                · (go_simp; first | done | with_reducible rfl | rfl | omega | assumption | (simp; omega))
                (try simp only [Act.put, aP, aZ, aS])
                refine pl_done ?_
                refine hK21.out _ _ ?_
                (try clear hK21 K21)
                refine wk_seq (fun K22 hK22 => ?_)
                refine wk_reg ?_
                refine pl_take (v := ?_) rfl ?_ ?_
                rotate_left
                · (go_simp; first | done | with_reducible rfl | rfl | omega | assumption | (simp; omega))
                (try simp only [Act.put, aP, aZ, aS])
                refine pl_take (v := .bool true) rfl ?_ ?_
                · (go_simp; first | done | with_reducible rfl | rfl | omega | assumption | (simp; omega))
                (try simp only [Act.put, aP, aZ, aS])
                refine pl_eff rfl (fun Kp hKp => ?_)
                go_simp
                ((refine (demand_ok _).mono ?_); rintro e50 w50 ⟨rfl, rfl⟩)
                (try go_wp2_with fail)
                refine hKp.out _ _ ?_
                clear hKp Kp
                (try simp only [Act.put, aP, aZ, aS])
                refine pl_done ?_
                refine hK22.out _ _ ?_
                (try clear hK22 K22)
                refine wk_reg ?_
                iterate 3 (refine pl_take (v := ?_) rfl ?_ ?_; rotate_left; (· (first | ((with_reducible apply yl_load); assumption; rfl; (repeat (first | with_reducible assumption | ((with_reducible apply Cl.own); exact rfl) | ((with_reducible apply Cl.blkL); exact rfl) | with_reducible apply Cl.cons)); rfl) | (first | ((with_reducible apply yl_loadAgg); assumption; rfl; (repeat (first | with_reducible exact Out.here _ | apply Out.there)); (simp); rfl; rfl) | ((with_reducible apply yl_loadAggR); assumption; rfl; (repeat (first | with_reducible assumption | with_reducible exact Rd.own | with_reducible exact Rd.nil | with_reducible apply Rd.cons)); rfl)) | (go_simp; first | done | with_reducible rfl | rfl | omega | assumption | (simp; omega)))); (try simp only [Act.put, aP, aZ, aS]))
                refine pl_eff rfl (fun Kp hKp => ?_)
                ((with_reducible apply st_buildOne (sz := 4)); assumption; (go_simp; rfl); rfl; omega; omega; intro b54 w54 hs54; simp only [Value.cells] at hs54)
                refine hKp.out _ _ ?_
                clear hKp Kp
                (try simp only [Act.put, aP, aZ, aS])
                refine pl_eff rfl (fun Kp hKp => ?_)
                ((with_reducible apply st_append); go_must (assumption; rfl; rfl; (repeat (first | with_reducible exact Out.here _ | apply Out.there)); (repeat (first | with_reducible assumption | with_reducible exact Rd.own | with_reducible exact Rd.nil | with_reducible apply Rd.cons)); (first | exact B8_one _ | exact I8_one _ | (simp [Value.oneCell'])); (first | omega | (simp only [maxLen]; omega)); omega; intro A55 c55 w55 hs55 hc55; (try ((refine hs55.own_elim ?_ ?_); omega; rintro g55 rfl)); try simp only [Nat.zero_add, List.nil_append] at hs55 hc55))
                refine hKp.out _ _ ?_
                clear hKp Kp
                (try simp only [Act.put, aP, aZ, aS])
                refine pl_take (v := ?_) rfl ?_ ?_
                rotate_left
                · (go_simp; first | done | with_reducible rfl | rfl | omega | assumption | (simp; omega))
                (try simp only [Act.put, aP, aZ, aS])
                refine pl_eff rfl (fun Kp hKp => ?_)
                (first | ((with_reducible apply st_store1); assumption; rfl; (go_simp; rfl); (repeat (first | with_reducible exact Out.here _ | apply Out.there)); rfl; rfl; simp; intro wr19_6 hsr19_6; (try simp only [aP] at hsr19_6); (try simp only [aS] at hsr19_6); (try simp only [aZ] at hsr19_6)) | ((with_reducible apply st_store_own); assumption; rfl; (go_simp; rfl); (repeat (first | with_reducible exact Out.here _ | apply Out.there)); rfl; rfl; omega; intro wr19_6 hsr19_6))
                refine hKp.out _ _ ?_
                clear hKp Kp
                (try dsimp only [Act.put])
                refine pl_done ?_
                refine hK20.out _ _ ?_
                (try clear hK20 K20)
                refine wk_reg ?_
                iterate 2 (refine pl_take (v := ?_) rfl ?_ ?_; rotate_left; (· (go_simp; first | done | with_reducible rfl | rfl | omega | assumption | (simp; omega))); (try simp only [Act.put, aP, aZ, aS]))
                refine pl_done ?_
                dsimp only [Exit.then]
                go_roundw
                case rel => (refine ⟨k + 1, some ⟨g55, 0, none⟩, c55, ys ++ [(⟨t, i, q, d⟩, A45, c45)], ev, rv, by go_num, by omega, by simp [hyl], by omega, by unfold Hid; rw [Hk2.out]; simp, by unfold Hid; rw [List.map_append]; exact Hr2.out, ?_⟩; rw [entsCells_snoc, entsData_snoc]; refine Sat.dv_snoc2 (E := 5) (c := c45) ?_; exact (by assumption : Sat w0 _ _).pick (by simp only [entCells]; (repeat (first | exact Pick.nil _ | exact Pick.tail _ | exact Out.here _ | apply Out.there | apply Pick.cons | apply Pick.drop))))
                case measure => simp [intOf]; omega
              · obtain rfl : X = (zeroMsg, 21) := Hbad.out k _ _ _ hlt Hk2.out (by rw [List.all_append]; simp [g0])
                have g1 : (g == 0) = false := by simp [g0]
                clear xv xg Hk Hr Hk2 g0
                refine wk_seq (fun K18 hK18 => ?_)
                refine wk_reg ?_
                refine pl_take (v := .bool true) rfl ?_ ?_
                · (go_simp; first | done | with_reducible rfl | rfl | omega | assumption | (simp; omega))
                (try simp only [Act.put, aP, aZ, aS])
                refine pl_done ?_
                refine hK18.out _ _ ?_
                (try clear hK18 K18)
                refine wk_seq (fun K19 hK19 => ?_)
                refine wp_cond_true rfl ?_
                refine wp_skip ?_
                refine hK19.out _ _ ?_
                (try clear hK19 K19)
                refine wk_seq (fun K20 hK20 => ?_)
                refine wp_block ?_
                refine wk_seq (fun K21 hK21 => ?_)
                refine wk_reg ?_
                refine pl_take (v := ?_) rfl ?_ ?_
                rotate_left
                · (go_simp; first | done | with_reducible rfl | rfl | omega | assumption | (simp; omega))
                (try simp only [Act.put, aP, aZ, aS])
                refine pl_eff rfl (fun Kp hKp => ?_)
                go_simp
                (refine (cv _ _ _ _ ((by assumption : Sat w0 _ _).pick (.cons (by (repeat (first | with_reducible exact Out.here _ | apply Out.there))) (.cons (by (repeat (first | with_reducible exact Out.here _ | apply Out.there))) (.tail _))))).mono ?_; rintro e44 w44 ⟨A44, c44, rfl, hs44⟩)
                (try go_wp2_with fail)
                refine hKp.out _ _ ?_
                clear hKp Kp
                (try simp only [Act.put, aP, aZ, aS])
                refine pl_eff rfl (fun Kp hKp => ?_)
                go_simp
                (refine (cg _ _ _ _ (by assumption) (by (repeat (first | with_reducible assumption | with_reducible exact Rd.own | with_reducible exact Rd.nil | with_reducible apply Rd.cons)))).mono ?_; rintro e45 w45 ⟨A45, c45, rfl, hs45⟩)
                (try go_wp2_with fail)
                refine hKp.out _ _ ?_
                clear hKp Kp
                (try simp only [Act.put, aP, aZ, aS])
                iterate 3 (refine pl_take (v := ?_) rfl ?_ ?_; rotate_left; (· (go_simp; first | done | with_reducible rfl | rfl | omega | assumption | (simp; omega))); (try simp only [Act.put, aP, aZ, aS]))
                refine pl_eff rfl (fun Kp hKp => ?_)
                ((with_reducible apply st_alloc); assumption; intro b9 w9 hs9; simp only [Value.cells] at hs9)
                refine hKp.out _ _ ?_
                clear hKp Kp
                (try simp only [Act.put, aP, aZ, aS])
                refine pl_eff rfl (fun Kp hKp => ?_)
                (first | ((with_reducible apply st_storeAll); assumption; rfl; (go_simp; rfl); (repeat (first | with_reducible exact Out.here _ | apply Out.there)); rfl; (focus (first | (simp [Value.oneCell']; done) | (simp [Value.cells, Value.oneCell']; done))); rfl; intro wr17_7 hsr17_7; simp only [Value.cells] at hsr17_7) | ((with_reducible apply st_store); assumption; rfl; (go_simp; rfl); (repeat (first | with_reducible exact Out.here _ | apply Out.there)); rfl; (first | (focus (simp [Value.oneCell']; done)) | (simp [Value.cells, Value.oneCell'])); (first | (focus (simp; done)) | (simp [Value.cells])); intro wr17_7 hsr17_7; simp only [upd, Value.cells] at hsr17_7))
                refine hKp.out _ _ ?_
                clear hKp Kp
                (try dsimp only [Act.put])
                refine pl_take (v := ?_) rfl ?_ ?_
                rotate_left
                · (go_simp; first | done | with_reducible rfl | rfl | omega | assumption | (simp; omega))
                (try simp only [Act.put, aP, aZ, aS])
                refine pl_done ?_
                refine hK21.out _ _ ?_
                (try clear hK21 K21)
                refine wk_seq (fun K22 hK22 => ?_)
                refine wk_reg ?_
                refine pl_take (v := ?_) rfl ?_ ?_
                rotate_left
                · (go_simp; first | done | with_reducible rfl | rfl | omega | assumption | (simp; omega))
                (try simp only [Act.put, aP, aZ, aS])
                refine pl_take (v := .bool false) rfl ?_ ?_
                · (go_simp; first | done | with_reducible rfl | rfl | omega | assumption | (simp; omega))
                (try simp only [Act.put, aP, aZ, aS])
                refine pl_eff rfl (fun Kp hKp => ?_)
                go_simp
                ((refine (demand_bad _).mono ?_); rintro e50 w50 ⟨rfl, rfl⟩)
                -- it panics
                exact get_caught (px := b2) (pe := b3) 21 rfl rfl ((by assumption : Sat w0 _ _).pick (by (repeat (first | exact Pick.nil _ | exact Pick.tail _ | exact Out.here _ | apply Out.there | apply Pick.cons | apply Pick.drop))))
            · obtain rfl : k = N := by omega
              have HX4 : Hid (X = finish ⟨3, n2, n3, n4, n5, n6, n7, n8, yes, ys.map (·.1), [], []⟩ ek rk) := by
                unfold Hid; rw [Hfin.out _ _ _ Hk.out (by rw [List.all_map]; simp), List.map_map]; rfl
              refine wk_seq (fun K18 hK18 => ?_)
              refine wk_reg ?_
              refine pl_take (v := .bool false) rfl ?_ ?_
              · (go_simp; first | done | with_reducible rfl | rfl | omega | assumption | (simp; omega))
              (try simp only [Act.put, aP, aZ, aS])
              refine pl_done ?_
              refine hK18.out _ _ ?_
              (try clear hK18 K18)
              refine wk_seq (fun K19 hK19 => ?_)
              refine wp_cond_false rfl ?_
              refine wp_exit ?_
              refine (by assumption : ∀ a' w', Met _ a' w' → _) _ _ ?_
              go_meet
              case rel => exact ⟨ys.map (·.1), [], [], ys, A4, none, none, c4, 0, 0, ek, rk, rfl, by rw [List.length_map]; omega, by simp, by simp, HX4, Hr, Hid.mk' (fun h => by omega), (((by assumption : Sat w0 _ _).own_nil 3 1).own_nil 5 1).pick (by simp only [List.length_map, hyl]; (repeat (first | exact Pick.nil _ | exact Pick.tail _ | exact Out.here _ | apply Out.there | apply Pick.cons | apply Pick.drop)))⟩
        · obtain rfl : X = (zeroMsg, 21) := by rw [← HX.out]; exact getMsg_many HM.out k9 rfl xn k8
          clear xn
          refine wk_seq (fun K13 hK13 => ?_)
          refine wk_reg ?_
          iterate 2 (refine pl_take (v := ?_) rfl ?_ ?_; rotate_left; (· (first | ((with_reducible apply yl_load); assumption; rfl; (repeat (first | with_reducible assumption | ((with_reducible apply Cl.own); exact rfl) | ((with_reducible apply Cl.blkL); exact rfl) | with_reducible apply Cl.cons)); rfl) | (go_simp; first | done | with_reducible rfl | rfl | omega | assumption | (simp; omega)))); (try simp only [Act.put, aP, aZ, aS]))
          refine pl_done ?_
          refine hK13.out _ _ ?_
          (try clear hK13 K13)
          refine wp_block ?_
          refine wk_seq (fun K14 hK14 => ?_)
          refine wk_reg ?_
          iterate 2 (refine pl_take (v := .bool true) rfl ?_ ?_; (· (go_simp; first | done | with_reducible rfl | rfl | omega | assumption | (simp; omega))); (try simp only [Act.put, aP, aZ, aS]))
          refine pl_done ?_
          refine hK14.out _ _ ?_
          (try clear hK14 K14)
          refine wp_cond_true rfl ?_
          refine wk_seq (fun K15 hK15 => ?_)
          refine wk_reg ?_
          refine pl_take (v := ?_) rfl ?_ ?_
          rotate_left
          · (go_simp; first | done | with_reducible rfl | rfl | omega | assumption | (simp; omega))
          (try simp only [Act.put, aP, aZ, aS])
          refine pl_eff rfl (fun Kp hKp => ?_)
          go_simp
          (refine (cn _ _ _ _ ((by assumption : Sat w0 _ _).pick (.cons (by (repeat (first | with_reducible exact Out.here _ | apply Out.there))) (.cons (by (repeat (first | with_reducible exact Out.here _ | apply Out.there))) (.tail _))))).mono ?_; rintro e35 w35 ⟨rfl, hs35⟩)
          (try go_wp2_with fail)
          refine hKp.out _ _ ?_
          clear hKp Kp
          (try simp only [Act.put, aP, aZ, aS])
          refine pl_take (v := ?_) rfl ?_ ?_
          rotate_left
          · (go_simp; first | done | with_reducible rfl | rfl | omega | assumption | (simp; omega))
          (try simp only [Act.put, aP, aZ, aS])
          refine pl_done ?_
          refine hK15.out _ _ ?_
          (try clear hK15 K15)
          refine wk_seq (fun K16 hK16 => ?_)
          refine wk_reg ?_
          refine pl_take (v := ?_) rfl ?_ ?_
          rotate_left
          · (go_simp; first | done | with_reducible rfl | rfl | omega | assumption | (simp; omega))
          (try simp only [Act.put, aP, aZ, aS])
          refine pl_take (v := .bool false) rfl ?_ ?_
          · (go_simp; first | done | with_reducible rfl | rfl | omega | assumption | (simp; omega))
          (try simp only [Act.put, aP, aZ, aS])
          refine pl_eff rfl (fun Kp hKp => ?_)
          go_simp
          ((refine (demand_bad _).mono ?_); rintro e38 w38 ⟨rfl, rfl⟩)
          -- it panics
          exact get_caught (px := b2) (pe := b3) 21 rfl rfl ((by assumption : Sat w0 _ _).pick (by (repeat (first | exact Pick.nil _ | exact Pick.tail _ | exact Out.here _ | apply Out.there | apply Pick.cons | apply Pick.drop))))
      · have k3' : (n1 == 3) = false := by simp [k3]
        by_cases k5 : n1 = 5
        · have k5' : (n1 == 5) = true := by simp [k5]
          obtain ⟨⟨s, es, rs⟩, xs⟩ : ∃ x, rdBytes e9 r9 = x := ⟨_, rfl⟩
          obtain ⟨⟨d, ed, rd⟩, xd⟩ : ∃ x, rdBytes es rs = x := ⟨_, rfl⟩
          obtain ⟨⟨sv, g⟩, xg⟩ : ∃ x, getServers s = x := ⟨_, rfl⟩
          obtain ⟨ls1, ls2⟩ := rdBytes_len xs
          obtain ⟨ld1, ld2⟩ := rdBytes_len xd
          have cs := fun (w : World) (L : List HP) (buf : HP) (p : Nat) (hs : Sat w0 w (Rd1 buf p e9 r9 :: buf :: L)) => bytes_read e9 r9 (by omega) hs
          have cd := fun (w : World) (L : List HP) (buf : HP) (p : Nat) (hs : Sat w0 w (Rd1 buf p es rs :: buf :: L)) => bytes_read es rs (by omega) hs
          have cg := fun (w : World) (L : List HP) (A : Option Addr) (c : Nat) (hs : Sat w0 w L) (hR : Rd w0 L A s.length 1 (B8 s)) => getServers_spec (c := c) s (by omega) hs hR
          rw [xs] at cs; rw [xd] at cd; rw [xg] at cg
          by_cases g0 : g = 0
          · subst g0
            have hok := getServers_ok xg
            have hsl := ((okServers_iff _).1 hok).1.2
            have HX4 : Hid (X = finish ⟨n1, n2, n3, n4, n5, n6, n7, n8, yes, [], sv, d⟩ ed rd) := by
              unfold Hid; rw [← HX.out, getMsg_five HM.out k9 k3 k5 xs xd xg, if_pos rfl, hyes]
            clear xs xd xg k5
            refine wk_seq (fun K13 hK13 => ?_)
            refine wk_reg ?_
            iterate 2 (refine pl_take (v := ?_) rfl ?_ ?_; rotate_left; (· (first | ((with_reducible apply yl_load); assumption; rfl; (repeat (first | with_reducible assumption | ((with_reducible apply Cl.own); exact rfl) | ((with_reducible apply Cl.blkL); exact rfl) | with_reducible apply Cl.cons)); rfl) | (go_simp; first | done | with_reducible rfl | rfl | omega | assumption | (simp; omega)))); (try simp only [Act.put, aP, aZ, aS]))
            refine pl_done ?_
            refine hK13.out _ _ ?_
            (try clear hK13 K13)
            refine wp_block ?_
            refine wk_seq (fun K14 hK14 => ?_)
            refine wk_reg ?_
            iterate 2 (refine pl_take (v := .bool false) rfl ?_ ?_; (· (go_simp; first | done | with_reducible rfl | rfl | omega | assumption | (simp; omega))); (try simp only [Act.put, aP, aZ, aS]))
            refine pl_done ?_
            refine hK14.out _ _ ?_
            (try clear hK14 K14)
            refine wp_cond_false rfl ?_
            refine wk_seq (fun K23 hK23 => ?_)
            refine wk_reg ?_
            iterate 2 (refine pl_take (v := .bool true) rfl ?_ ?_; (· (go_simp; first | done | with_reducible rfl | rfl | omega | assumption | (simp; omega))); (try simp only [Act.put, aP, aZ, aS]))
            refine pl_done ?_
            refine hK23.out _ _ ?_
            (try clear hK23 K23)
            refine wp_cond_true rfl ?_
            refine wk_seq (fun K24 hK24 => ?_)
            refine wk_reg ?_
            refine pl_take (v := ?_) rfl ?_ ?_
            rotate_left
            · (go_simp; first | done | with_reducible rfl | rfl | omega | assumption | (simp; omega))
            (try simp only [Act.put, aP, aZ, aS])
            refine pl_eff rfl (fun Kp hKp => ?_)
            go_simp
            (refine (cs _ _ _ _ ((by assumption : Sat w0 _ _).pick (.cons (by (repeat (first | with_reducible exact Out.here _ | apply Out.there))) (.cons (by (repeat (first | with_reducible exact Out.here _ | apply Out.there))) (.tail _))))).mono ?_; rintro e62 w62 ⟨A62, c62, rfl, hs62⟩)
            (try go_wp2_with fail)
            refine hKp.out _ _ ?_
            clear hKp Kp
            (try simp only [Act.put, aP, aZ, aS])
            refine pl_eff rfl (fun Kp hKp => ?_)
            go_simp
            (refine (cg _ _ _ _ (by assumption) (by (repeat (first | with_reducible assumption | with_reducible exact Rd.own | with_reducible exact Rd.nil | with_reducible apply Rd.cons)))).mono ?_; rintro e63 w63 ⟨A63, c63, n63, hn63, rfl, hs63⟩; obtain rfl := hn63.out)
            (try go_wp2_with fail)
            refine hKp.out _ _ ?_
            clear hKp Kp
            (try simp only [Act.put, aP, aZ, aS])
            iterate 4 (refine pl_take (v := ?_) rfl ?_ ?_; rotate_left; (· (go_simp; first | done | with_reducible rfl | rfl | omega | assumption | (simp; omega))); (try simp only [Act.put, aP, aZ, aS]))
            refine pl_eff rfl (fun Kp hKp => ?_)
            (first | ((with_reducible apply st_store1); assumption; rfl; (go_simp; rfl); (repeat (first | with_reducible exact Out.here _ | apply Out.there)); rfl; rfl; simp; intro wr22_7 hsr22_7; (try simp only [aP] at hsr22_7); (try simp only [aS] at hsr22_7); (try simp only [aZ] at hsr22_7)) | ((with_reducible apply st_store_own); assumption; rfl; (go_simp; rfl); (repeat (first | with_reducible exact Out.here _ | apply Out.there)); rfl; rfl; omega; intro wr22_7 hsr22_7))
            refine hKp.out _ _ ?_
            clear hKp Kp
            (try dsimp only [Act.put])
            refine pl_eff rfl (fun Kp hKp => ?_)
            (first | ((with_reducible apply st_store1); assumption; rfl; (go_simp; rfl); (repeat (first | with_reducible exact Out.here _ | apply Out.there)); rfl; rfl; simp; intro wr22_8 hsr22_8; (try simp only [aP] at hsr22_8); (try simp only [aS] at hsr22_8); (try simp only [aZ] at hsr22_8)) | ((with_reducible apply st_store_own); assumption; rfl; (go_simp; rfl); (repeat (first | with_reducible exact Out.here _ | apply Out.there)); rfl; rfl; omega; intro wr22_8 hsr22_8))
            refine hKp.out _ _ ?_
            clear hKp Kp
            (try dsimp only [Act.put])
            refine pl_done ?_
            refine hK24.out _ _ ?_
            (try clear hK24 K24)
            refine wk_seq (fun K25 hK25 => ?_)
            refine wk_reg ?_
            refine pl_take (v := ?_) rfl ?_ ?_
            rotate_left
            · ((with_reducible apply yl_load); assumption; rfl; (repeat (first | with_reducible assumption | ((with_reducible apply Cl.own); exact rfl) | ((with_reducible apply Cl.blkL); exact rfl) | with_reducible apply Cl.cons)); rfl)
            (try simp only [Act.put, aP, aZ, aS])
            refine pl_take (v := .bool true) rfl ?_ ?_
            · (go_simp; first | done | with_reducible rfl | rfl | omega | assumption | (simp; omega))
            (try simp only [Act.put, aP, aZ, aS])
            refine pl_eff rfl (fun Kp hKp => ?_)
            go_simp
            ((refine (demand_ok _).mono ?_); rintro e69 w69 ⟨rfl, rfl⟩)
            (try go_wp2_with fail)
            refine hKp.out _ _ ?_
            clear hKp Kp
            (try simp only [Act.put, aP, aZ, aS])
            refine pl_done ?_
            refine hK25.out _ _ ?_
            (try clear hK25 K25)
            refine wk_reg ?_
            refine pl_take (v := ?_) rfl ?_ ?_
            rotate_left
            · (go_simp; first | done | with_reducible rfl | rfl | omega | assumption | (simp; omega))
            (try simp only [Act.put, aP, aZ, aS])
            refine pl_eff rfl (fun Kp hKp => ?_)
            go_simp
            (refine (cd _ _ _ _ ((by assumption : Sat w0 _ _).pick (.cons (by (repeat (first | with_reducible exact Out.here _ | apply Out.there))) (.cons (by (repeat (first | with_reducible exact Out.here _ | apply Out.there))) (.tail _))))).mono ?_; rintro e71 w71 ⟨A71, c71, rfl, hs71⟩)
            (try go_wp2_with fail)
            refine hKp.out _ _ ?_
            clear hKp Kp
            (try simp only [Act.put, aP, aZ, aS])
            refine pl_take (v := ?_) rfl ?_ ?_
            rotate_left
            · (go_simp; first | done | with_reducible rfl | rfl | omega | assumption | (simp; omega))
            (try simp only [Act.put, aP, aZ, aS])
            refine pl_eff rfl (fun Kp hKp => ?_)
            (first | ((with_reducible apply st_store1); assumption; rfl; (go_simp; rfl); (repeat (first | with_reducible exact Out.here _ | apply Out.there)); rfl; rfl; simp; intro wr24_3 hsr24_3; (try simp only [aP] at hsr24_3); (try simp only [aS] at hsr24_3); (try simp only [aZ] at hsr24_3)) | ((with_reducible apply st_store_own); assumption; rfl; (go_simp; rfl); (repeat (first | with_reducible exact Out.here _ | apply Out.there)); rfl; rfl; omega; intro wr24_3 hsr24_3))
            refine hKp.out _ _ ?_
            clear hKp Kp
            (try dsimp only [Act.put])
            refine pl_done ?_
            refine (by assumption : ∀ a' w', Met _ a' w' → _) _ _ ?_
            go_meet
            case rel => exact ⟨[], sv, d, [], none, A63, A71, 0, c63, c71, ed, rd, rfl, by simp, hsl, by omega, HX4, rfl, Hid.mk' (fun _ => hok), (((by assumption : Sat w0 _ _).own_nil 41 4).dv_nil).pick (by (repeat (first | exact Pick.nil _ | exact Pick.tail _ | exact Out.here _ | apply Out.there | apply Pick.cons | apply Pick.drop)))⟩
          · obtain rfl : X = (zeroMsg, 21) := by rw [← HX.out, getMsg_five HM.out k9 k3 k5 xs xd xg, if_neg g0]
            have g1 : (g == 0) = false := by simp [g0]
            clear xs xd xg k5 g0
            refine wk_seq (fun K13 hK13 => ?_)
            refine wk_reg ?_
            iterate 2 (refine pl_take (v := ?_) rfl ?_ ?_; rotate_left; (· (first | ((with_reducible apply yl_load); assumption; rfl; (repeat (first | with_reducible assumption | ((with_reducible apply Cl.own); exact rfl) | ((with_reducible apply Cl.blkL); exact rfl) | with_reducible apply Cl.cons)); rfl) | (go_simp; first | done | with_reducible rfl | rfl | omega | assumption | (simp; omega)))); (try simp only [Act.put, aP, aZ, aS]))
            refine pl_done ?_
            refine hK13.out _ _ ?_
            (try clear hK13 K13)
            refine wp_block ?_
            refine wk_seq (fun K14 hK14 => ?_)
            refine wk_reg ?_
            iterate 2 (refine pl_take (v := .bool false) rfl ?_ ?_; (· (go_simp; first | done | with_reducible rfl | rfl | omega | assumption | (simp; omega))); (try simp only [Act.put, aP, aZ, aS]))
            refine pl_done ?_
            refine hK14.out _ _ ?_
            (try clear hK14 K14)
            refine wp_cond_false rfl ?_
            refine wk_seq (fun K23 hK23 => ?_)
            refine wk_reg ?_
            iterate 2 (refine pl_take (v := .bool true) rfl ?_ ?_; (· (go_simp; first | done | with_reducible rfl | rfl | omega | assumption | (simp; omega))); (try simp only [Act.put, aP, aZ, aS]))
            refine pl_done ?_
            refine hK23.out _ _ ?_
            (try clear hK23 K23)
            refine wp_cond_true rfl ?_
            refine wk_seq (fun K24 hK24 => ?_)
            refine wk_reg ?_
            refine pl_take (v := ?_) rfl ?_ ?_
            rotate_left
            · (go_simp; first | done | with_reducible rfl | rfl | omega | assumption | (simp; omega))
            (try simp only [Act.put, aP, aZ, aS])
            refine pl_eff rfl (fun Kp hKp => ?_)
            go_simp
            (refine (cs _ _ _ _ ((by assumption : Sat w0 _ _).pick (.cons (by (repeat (first | with_reducible exact Out.here _ | apply Out.there))) (.cons (by (repeat (first | with_reducible exact Out.here _ | apply Out.there))) (.tail _))))).mono ?_; rintro e62 w62 ⟨A62, c62, rfl, hs62⟩)
            (try go_wp2_with fail)
            refine hKp.out _ _ ?_
            clear hKp Kp
            (try simp only [Act.put, aP, aZ, aS])
            refine pl_eff rfl (fun Kp hKp => ?_)
            go_simp
            (refine (cg _ _ _ _ (by assumption) (by (repeat (first | with_reducible assumption | with_reducible exact Rd.own | with_reducible exact Rd.nil | with_reducible apply Rd.cons)))).mono ?_; rintro e63 w63 ⟨A63, c63, n63, hn63, rfl, hs63⟩; obtain rfl := hn63.out)
            (try go_wp2_with fail)
            refine hKp.out _ _ ?_
            clear hKp Kp
            (try simp only [Act.put, aP, aZ, aS])
            iterate 4 (refine pl_take (v := ?_) rfl ?_ ?_; rotate_left; (· (go_simp; first | done | with_reducible rfl | rfl | omega | assumption | (simp; omega))); (try simp only [Act.put, aP, aZ, aS]))
            refine pl_eff rfl (fun Kp hKp => ?_)
            (first | ((with_reducible apply st_store1); assumption; rfl; (go_simp; rfl); (repeat (first | with_reducible exact Out.here _ | apply Out.there)); rfl; rfl; simp; intro wr22_7 hsr22_7; (try simp only [aP] at hsr22_7); (try simp only [aS] at hsr22_7); (try simp only [aZ] at hsr22_7)) | ((with_reducible apply st_store_own); assumption; rfl; (go_simp; rfl); (repeat (first | with_reducible exact Out.here _ | apply Out.there)); rfl; rfl; omega; intro wr22_7 hsr22_7))
            refine hKp.out _ _ ?_
            clear hKp Kp
            (try dsimp only [Act.put])
            refine pl_eff rfl (fun Kp hKp => ?_)
            (first | ((with_reducible apply st_store1); assumption; rfl; (go_simp; rfl); (repeat (first | with_reducible exact Out.here _ | apply Out.there)); rfl; rfl; simp; intro wr22_8 hsr22_8; (try simp only [aP] at hsr22_8); (try simp only [aS] at hsr22_8); (try simp only [aZ] at hsr22_8)) | ((with_reducible apply st_store_own); assumption; rfl; (go_simp; rfl); (repeat (first | with_reducible exact Out.here _ | apply Out.there)); rfl; rfl; omega; intro wr22_8 hsr22_8))
            refine hKp.out _ _ ?_
            clear hKp Kp
            (try dsimp only [Act.put])
            refine pl_done ?_
            refine hK24.out _ _ ?_
            (try clear hK24 K24)
            refine wk_seq (fun K25 hK25 => ?_)
            refine wk_reg ?_
            refine pl_take (v := ?_) rfl ?_ ?_
            rotate_left
            · ((with_reducible apply yl_load); assumption; rfl; (repeat (first | with_reducible assumption | ((with_reducible apply Cl.own); exact rfl) | ((with_reducible apply Cl.blkL); exact rfl) | with_reducible apply Cl.cons)); rfl)
            (try simp only [Act.put, aP, aZ, aS])
            refine pl_take (v := .bool false) rfl ?_ ?_
            · (go_simp; first | done | with_reducible rfl | rfl | omega | assumption | (simp; omega))
            (try simp only [Act.put, aP, aZ, aS])
            refine pl_eff rfl (fun Kp hKp => ?_)
            go_simp
            ((refine (demand_bad _).mono ?_); rintro e69 w69 ⟨rfl, rfl⟩)
            -- it panics
            exact get_caught (px := b2) (pe := b3) 21 rfl rfl ((by assumption : Sat w0 _ _).pick (by (repeat (first | exact Pick.nil _ | exact Pick.tail _ | exact Out.here _ | apply Out.there | apply Pick.cons | apply Pick.drop))))
        · have k5' : (n1 == 5) = false := by simp [k5]
          have HX4 : Hid (X = finish ⟨n1, n2, n3, n4, n5, n6, n7, n8, yes, [], [], []⟩ e9 r9) := by
            unfold Hid; rw [← HX.out, getMsg_else HM.out k9 k3 k5, hyes]
          have h5 : Hid (n1 = 5 → okServers [] = true) := Hid.mk' (fun h => absurd h k5)
          clear k5
          refine wk_seq (fun K13 hK13 => ?_)
          refine wk_reg ?_
          iterate 2 (refine pl_take (v := ?_) rfl ?_ ?_; rotate_left; (· (first | ((with_reducible apply yl_load); assumption; rfl; (repeat (first | with_reducible assumption | ((with_reducible apply Cl.own); exact rfl) | ((with_reducible apply Cl.blkL); exact rfl) | with_reducible apply Cl.cons)); rfl) | (go_simp; first | done | with_reducible rfl | rfl | omega | assumption | (simp; omega)))); (try simp only [Act.put, aP, aZ, aS]))
          refine pl_done ?_
          refine hK13.out _ _ ?_
          (try clear hK13 K13)
          refine wp_block ?_
          refine wk_seq (fun K14 hK14 => ?_)
          refine wk_reg ?_
          iterate 2 (refine pl_take (v := .bool false) rfl ?_ ?_; (· (go_simp; first | done | with_reducible rfl | rfl | omega | assumption | (simp; omega))); (try simp only [Act.put, aP, aZ, aS]))
          refine pl_done ?_
          refine hK14.out _ _ ?_
          (try clear hK14 K14)
          refine wp_cond_false rfl ?_
          refine wk_seq (fun K23 hK23 => ?_)
          refine wk_reg ?_
          iterate 2 (refine pl_take (v := .bool false) rfl ?_ ?_; (· (go_simp; first | done | with_reducible rfl | rfl | omega | assumption | (simp; omega))); (try simp only [Act.put, aP, aZ, aS]))
          refine pl_done ?_
          refine hK23.out _ _ ?_
          (try clear hK23 K23)
          refine wp_cond_false rfl ?_
          refine wp_skip ?_
          refine (by assumption : ∀ a' w', Met _ a' w' → _) _ _ ?_
          go_meet
          case rel => exact ⟨[], [], [], [], none, none, none, 0, 0, 0, e9, r9, rfl, by simp, by simp, by simp, HX4, rfl, h5, (((((by assumption : Sat w0 _ _).own_nil 41 4).dv_nil).own_nil 3 1).own_nil 5 1).pick (by (repeat (first | exact Pick.nil _ | exact Pick.tail _ | exact Out.here _ | apply Out.there | apply Pick.cons | apply Pick.drop)))⟩
end Go.Proofs.Ytcedbmcnjckajaa
