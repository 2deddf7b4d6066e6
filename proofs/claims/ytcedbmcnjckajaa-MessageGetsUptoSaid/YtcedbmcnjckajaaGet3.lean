/-
  Messages: Get of the document.
-/
import Derived.Test.YtcedbmcnjckajaaGet1
import Derived.Test.YtcedbmcnjckajaaMsg5
namespace Go.Proofs.Ytcedbmcnjckajaa
open Go Go.RowKit Sl Go.Shelf
set_option maxHeartbeats 20000000
set_option maxRecDepth 8000

section
variable {b r9 : List UInt8} {n1 n2 n3 n4 n5 n6 n7 n8 n9 e9 : Int}
theorem rdMsg_three (h : rdMany 9 0 b = ([n1, n2, n3, n4, n5, n6, n7, n8, n9], e9, r9)) (h3 : n1 = 3) {n en ez : Int} {rn rz : List UInt8} {zs : List (Ent × Int)} (hn : rdNumber e9 r9 = (n, en, rn)) (hz : rdEnts (min n.toNat 9) en rn = (zs, ez, rz)) :
    rdMsg b = (⟨n1, n2, n3, n4, n5, n6, n7, n8, n9 == 1, zs.map (·.1), [], []⟩, decide (n9 ≤ 1) && zs.all (fun y => y.2 == 0), ez, rz) := by
  unfold rdMsg
  rw [h]
  simp only [msgOf, List.getD_cons_zero, List.getD_cons_succ, if_pos h3, hn, hz]

theorem rdMsg_five (h : rdMany 9 0 b = ([n1, n2, n3, n4, n5, n6, n7, n8, n9], e9, r9)) (h3 : ¬ n1 = 3) (h5 : n1 = 5) {es ed g : Int} {s d rs rd : List UInt8} {sv : List Int} (hs : rdBytes e9 r9 = (s, es, rs)) (hd : rdBytes es rs = (d, ed, rd)) (hg : getServers s = (sv, g)) :
    rdMsg b = (⟨n1, n2, n3, n4, n5, n6, n7, n8, n9 == 1, [], sv, d⟩, decide (n9 ≤ 1) && (g == 0), ed, rd) := by
  unfold rdMsg
  rw [h]
  simp only [msgOf, List.getD_cons_zero, List.getD_cons_succ, if_neg h3, if_pos h5, hs, hd, hg]

theorem rdMsg_else (h : rdMany 9 0 b = ([n1, n2, n3, n4, n5, n6, n7, n8, n9], e9, r9)) (h3 : ¬ n1 = 3) (h5 : ¬ n1 = 5) :
    rdMsg b = (⟨n1, n2, n3, n4, n5, n6, n7, n8, n9 == 1, [], [], []⟩, decide (n9 ≤ 1), e9, r9) := by
  unfold rdMsg
  rw [h]
  simp only [msgOf, List.getD_cons_zero, List.getD_cons_succ, if_neg h3, if_neg h5]
end

theorem getServers_len (s : List UInt8) : (getServers s).1.length ≤ 7 := by
  unfold getServers
  simp only
  split
  · rename_i h; exact ((okServers_iff _).1 h.1).1.2
  · simp

theorem getEntry_in (s : List UInt8) : (getEntry s).1.d.length ≤ 4096 ∧ In64 (getEntry s).1.t ∧ In64 (getEntry s).1.i ∧ In64 (getEntry s).1.k := by
  unfold getEntry
  split
  · rename_i h
    have := rightE_iff h.2
    exact ⟨this.2.2.2.2.2.2, by unfold In64; simp only; omega, by unfold In64; simp only; omega, by unfold In64; simp only; omega⟩
  · exact ⟨by simp, by unfold In64; simp only; omega, by unfold In64; simp only; omega, by unfold In64; simp only; omega⟩


theorem refGet_spec {w0 w : World} {L : List HP} {A : Option Addr} {c : Nat} (b : List UInt8) (hl : b.length ≤ 1048576) (hs : Sat w0 w L) (hR : Rd w0 L A b.length 1 (B8 b)) :
    Calls Try.prog 18 #[.slice A b.length c] w (RetGM w0 L (getMsg b)) := by
  obtain ⟨⟨n1, e1, r1⟩, x1⟩ : ∃ x, rdNumber 0 b = x := ⟨_, rfl⟩
  have l1 := (rdNumber_ok x1).2.2.1
  obtain ⟨⟨n2, e2, r2⟩, x2⟩ : ∃ x, rdNumber e1 r1 = x := ⟨_, rfl⟩
  have l2 := (rdNumber_ok x2).2.2.1
  obtain ⟨⟨n3, e3, r3⟩, x3⟩ : ∃ x, rdNumber e2 r2 = x := ⟨_, rfl⟩
  have l3 := (rdNumber_ok x3).2.2.1
  obtain ⟨⟨n4, e4, r4⟩, x4⟩ : ∃ x, rdNumber e3 r3 = x := ⟨_, rfl⟩
  have l4 := (rdNumber_ok x4).2.2.1
  obtain ⟨⟨n5, e5, r5⟩, x5⟩ : ∃ x, rdNumber e4 r4 = x := ⟨_, rfl⟩
  have l5 := (rdNumber_ok x5).2.2.1
  obtain ⟨⟨n6, e6, r6⟩, x6⟩ : ∃ x, rdNumber e5 r5 = x := ⟨_, rfl⟩
  have l6 := (rdNumber_ok x6).2.2.1
  obtain ⟨⟨n7, e7, r7⟩, x7⟩ : ∃ x, rdNumber e6 r6 = x := ⟨_, rfl⟩
  have l7 := (rdNumber_ok x7).2.2.1
  obtain ⟨⟨n8, e8, r8⟩, x8⟩ : ∃ x, rdNumber e7 r7 = x := ⟨_, rfl⟩
  have l8 := (rdNumber_ok x8).2.2.1
  obtain ⟨⟨n9, e9, r9⟩, x9⟩ : ∃ x, rdNumber e8 r8 = x := ⟨_, rfl⟩
  have l9 := (rdNumber_ok x9).2.2.1
  have c1 := fun (w : World) (L : List HP) (buf : HP) (p : Nat) (hs : Sat w0 w (RR buf p 0 b :: buf :: L)) => refNumberR 0 b hs
  rw [x1] at c1
  have c2 := fun (w : World) (L : List HP) (buf : HP) (p : Nat) (hs : Sat w0 w (RR buf p e1 r1 :: buf :: L)) => refNumberR e1 r1 hs
  rw [x2] at c2
  have c3 := fun (w : World) (L : List HP) (buf : HP) (p : Nat) (hs : Sat w0 w (RR buf p e2 r2 :: buf :: L)) => refNumberR e2 r2 hs
  rw [x3] at c3
  have c4 := fun (w : World) (L : List HP) (buf : HP) (p : Nat) (hs : Sat w0 w (RR buf p e3 r3 :: buf :: L)) => refNumberR e3 r3 hs
  rw [x4] at c4
  have c5 := fun (w : World) (L : List HP) (buf : HP) (p : Nat) (hs : Sat w0 w (RR buf p e4 r4 :: buf :: L)) => refNumberR e4 r4 hs
  rw [x5] at c5
  have c6 := fun (w : World) (L : List HP) (buf : HP) (p : Nat) (hs : Sat w0 w (RR buf p e5 r5 :: buf :: L)) => refNumberR e5 r5 hs
  rw [x6] at c6
  have c7 := fun (w : World) (L : List HP) (buf : HP) (p : Nat) (hs : Sat w0 w (RR buf p e6 r6 :: buf :: L)) => refNumberR e6 r6 hs
  rw [x7] at c7
  have c8 := fun (w : World) (L : List HP) (buf : HP) (p : Nat) (hs : Sat w0 w (RR buf p e7 r7 :: buf :: L)) => refNumberR e7 r7 hs
  rw [x8] at c8
  have c9 := fun (w : World) (L : List HP) (buf : HP) (p : Nat) (hs : Sat w0 w (RR buf p e8 r8 :: buf :: L)) => refNumberR e8 r8 hs
  rw [x9] at c9
  have HM := Hid.mk' (rdMany_nine x1 x2 x3 x4 x5 x6 x7 x8 x9)
  clear x1 x2 x3 x4 x5 x6 x7 x8 x9
  have l10 : r9.length ≤ 1048576 := by omega
  clear l1 l2 l3 l4 l5 l6 l7 l8 l9
  obtain ⟨X, hX⟩ : ∃ X, getMsg b = X := ⟨_, rfl⟩
  rw [hX]
  have HX := Hid.mk' hX
  clear hX
  obtain ⟨yes, hyes⟩ : ∃ yes, (n9 == 1) = yes := ⟨_, rfl⟩
  obtain ⟨ok1, hok1⟩ : ∃ ok1, decide (n9 ≤ 1) = ok1 := ⟨_, rfl⟩
  go_enter Try.func18, Try.ntmps18
  refine wk_seq (fun K0 hK0 => ?_)
  refine wk_reg ?_
  refine pl_eff rfl (fun Kp hKp => ?_)
  ((with_reducible apply st_alloc); assumption; intro b2 w2 hs2; simp only [Value.cells] at hs2)
  refine hKp.out _ _ ?_
  clear hKp Kp
  (try simp only [Act.put, aP, aZ, aS])
  refine pl_take (v := ?_) rfl ?_ ?_
  rotate_left
  · (go_simp; first | done | with_reducible rfl | rfl | omega | assumption | (simp; omega))
  (try simp only [Act.put, aP, aZ, aS])
  refine pl_done ?_
  refine hK0.out _ _ ?_
  (try clear hK0 K0)
  refine wk_seq (fun K1 hK1 => ?_)
  refine wk_reg ?_
  refine pl_take (v := ?_) rfl ?_ ?_
  rotate_left
  · (go_simp; first | done | with_reducible rfl | rfl | omega | assumption | (simp; omega))
  (try simp only [Act.put, aP, aZ, aS])
  refine pl_eff rfl (fun Kp hKp => ?_)
  go_simp
  ((refine (refNew_spec b (by omega) (by assumption) (by (repeat (first | with_reducible assumption | with_reducible exact Rd.own | with_reducible exact Rd.nil | with_reducible apply Rd.cons)))).mono ?_); rintro e16 w16 ⟨q, br, rfl, hs16⟩)
  (try go_wp2_with fail)
  refine hKp.out _ _ ?_
  clear hKp Kp
  (try simp only [Act.put, aP, aZ, aS])
  refine pl_take (v := ?_) rfl ?_ ?_
  rotate_left
  · (go_simp; first | done | with_reducible rfl | rfl | omega | assumption | (simp; omega))
  (try simp only [Act.put, aP, aZ, aS])
  refine pl_done ?_
  refine hK1.out _ _ ?_
  (try clear hK1 K1)
  refine wk_seq (fun K2 hK2 => ?_)
  refine wk_reg ?_
  refine pl_eff rfl (fun Kp hKp => ?_)
  ((with_reducible apply st_alloc); assumption; intro b5 w5 hs5; simp only [Value.cells] at hs5)
  refine hKp.out _ _ ?_
  clear hKp Kp
  (try simp only [Act.put, aP, aZ, aS])
  refine pl_done ?_
  refine hK2.out _ _ ?_
  (try clear hK2 K2)
  refine wk_seq (fun K3 hK3 => ?_)
  -- at a cut
  go_cut [] from 17 to 24 (fun w => Sat w0 w (blk b5 (.cells #[.int .i64 n1, .int .i64 n2, .int .i64 n3, .int .i64 n4, .int .i64 n5, .int .i64 n6, .int .i64 n7, .int .i64 n8, .int .i64 n9] 84 (0, 0)) :: RR br q e9 r9 :: br :: blk b2 (.cells #[.int .i64 0, .int .i64 0, .int .i64 0, .int .i64 0, .int .i64 0, .int .i64 0, .int .i64 0, .int .i64 0, .bool false, .slice none 0 0, .slice none 0 0, .slice none 0 0] 26 (0, 0)) :: L))
  case first =>
    refine wk_seq (fun K4 hK4 => ?_)
    refine wk_reg ?_
    refine pl_take (v := ?_) rfl ?_ ?_
    rotate_left
    · (go_simp; first | done | with_reducible rfl | rfl | omega | assumption | (simp; omega))
    (try simp only [Act.put, aP, aZ, aS])
    refine pl_done ?_
    refine hK4.out _ _ ?_
    (try clear hK4 K4)
    refine wp_block ?_
    have hwr1 : IntKind.i64.wrap 1 = 1 := by decide
    have hwr2 : IntKind.i64.wrap 2 = 2 := by decide
    have hwr3 : IntKind.i64.wrap 3 = 3 := by decide
    have hwr4 : IntKind.i64.wrap 4 = 4 := by decide
    have hwr5 : IntKind.i64.wrap 5 = 5 := by decide
    have hwr6 : IntKind.i64.wrap 6 = 6 := by decide
    have hwr7 : IntKind.i64.wrap 7 = 7 := by decide
    have hwr8 : IntKind.i64.wrap 8 = 8 := by decide
    have hwr9 : IntKind.i64.wrap 9 = 9 := by decide
    have hwr10 : IntKind.i64.wrap 10 = 10 := by decide
    have hwr11 : IntKind.i64.wrap 11 = 11 := by decide
    have hwr12 : IntKind.i64.wrap 12 = 12 := by decide
    have hwr13 : IntKind.i64.wrap 13 = 13 := by decide
    have hwr14 : IntKind.i64.wrap 14 = 14 := by decide
    refine wp_loop_rounds 10 ?_
    rw [rounds_succ]
    refine wk_seq (fun K5 hK5 => ?_)
    refine wk_seq (fun K6 hK6 => ?_)
    refine wk_reg ?_
    refine pl_take (v := ?_) rfl ?_ ?_
    rotate_left
    · (go_simp; first | done | with_reducible rfl | rfl | omega | assumption | (simp; omega))
    (try simp only [Act.put, aP, aZ, aS])
    refine pl_take (v := .bool true) rfl ?_ ?_
    · (go_simp; first | done | with_reducible rfl | rfl | omega | assumption | (simp; omega))
    (try simp only [Act.put, aP, aZ, aS])
    refine pl_done ?_
    refine hK6.out _ _ ?_
    (try clear hK6 K6)
    refine wp_cond_true rfl ?_
    refine wp_skip ?_
    refine hK5.out _ _ ?_
    (try clear hK5 K5)
    refine wk_seq (fun K7 hK7 => ?_)
    refine wp_block ?_
    refine wk_reg ?_
    iterate 2 (refine pl_take (v := ?_) rfl ?_ ?_; rotate_left; (· (go_simp; first | done | with_reducible rfl | rfl | omega | assumption | (simp; omega))); (try simp only [Act.put, aP, aZ, aS]))
    refine pl_eff rfl (fun Kp hKp => ?_)
    go_simp
    (refine (c1 _ _ _ _ ((by assumption : Sat w0 _ _).pick (.cons (by (repeat (first | with_reducible exact Out.here _ | apply Out.there))) (.cons (by (repeat (first | with_reducible exact Out.here _ | apply Out.there))) (.tail _))))).mono ?_; rintro e23 w23 ⟨rfl, hs23⟩)
    (try go_wp2_with fail)
    refine hKp.out _ _ ?_
    clear hKp Kp
    (try simp only [Act.put, aP, aZ, aS])
    refine pl_take (v := ?_) rfl ?_ ?_
    rotate_left
    · (go_simp; first | done | with_reducible rfl | rfl | omega | assumption | (simp; omega))
    (try simp only [Act.put, aP, aZ, aS])
    refine pl_eff rfl (fun Kp hKp => ?_)
    (first | ((with_reducible apply st_store1); assumption; rfl; (go_simp; rfl); (repeat (first | with_reducible exact Out.here _ | apply Out.there)); rfl; rfl; simp; intro wr6_4 hsr6_4; (try simp only [aP] at hsr6_4); (try simp only [aS] at hsr6_4); (try simp only [aZ] at hsr6_4)) | ((with_reducible apply st_store_own); assumption; rfl; (go_simp; rfl); (repeat (first | with_reducible exact Out.here _ | apply Out.there)); rfl; rfl; omega; intro wr6_4 hsr6_4))
    refine hKp.out _ _ ?_
    clear hKp Kp
    (try dsimp only [Act.put])
    refine pl_done ?_
    refine hK7.out _ _ ?_
    (try clear hK7 K7)
    refine wk_reg ?_
    iterate 3 (refine pl_take (v := ?_) rfl ?_ ?_; rotate_left; (· (go_simp; first | done | with_reducible rfl | rfl | omega | assumption | (simp; omega))); (try simp only [Act.put, aP, aZ, aS]))
    refine pl_done ?_
    show Code.rounds _ _ _ _ _ _
    rw [rounds_succ]
    refine wk_seq (fun K5 hK5 => ?_)
    refine wk_seq (fun K6 hK6 => ?_)
    refine wk_reg ?_
    refine pl_take (v := ?_) rfl ?_ ?_
    rotate_left
    · (go_simp; first | done | with_reducible rfl | rfl | omega | assumption | (simp; omega))
    (try simp only [Act.put, aP, aZ, aS])
    refine pl_take (v := .bool true) rfl ?_ ?_
    · (go_simp; first | done | with_reducible rfl | rfl | omega | assumption | (simp; omega))
    (try simp only [Act.put, aP, aZ, aS])
    refine pl_done ?_
    refine hK6.out _ _ ?_
    (try clear hK6 K6)
    refine wp_cond_true rfl ?_
    refine wp_skip ?_
    refine hK5.out _ _ ?_
    (try clear hK5 K5)
    refine wk_seq (fun K7 hK7 => ?_)
    refine wp_block ?_
    refine wk_reg ?_
    iterate 2 (refine pl_take (v := ?_) rfl ?_ ?_; rotate_left; (· (go_simp; first | done | with_reducible rfl | rfl | omega | assumption | (simp; omega))); (try simp only [Act.put, aP, aZ, aS]))
    refine pl_eff rfl (fun Kp hKp => ?_)
    go_simp
    (refine (c2 _ _ _ _ ((by assumption : Sat w0 _ _).pick (.cons (by (repeat (first | with_reducible exact Out.here _ | apply Out.there))) (.cons (by (repeat (first | with_reducible exact Out.here _ | apply Out.there))) (.tail _))))).mono ?_; rintro e23 w23 ⟨rfl, hs23⟩)
    (try go_wp2_with fail)
    refine hKp.out _ _ ?_
    clear hKp Kp
    (try simp only [Act.put, aP, aZ, aS])
    refine pl_take (v := ?_) rfl ?_ ?_
    rotate_left
    · (go_simp; first | done | with_reducible rfl | rfl | omega | assumption | (simp; omega))
    (try simp only [Act.put, aP, aZ, aS])
    refine pl_eff rfl (fun Kp hKp => ?_)
    (first | ((with_reducible apply st_store1); assumption; rfl; (go_simp; rfl); (repeat (first | with_reducible exact Out.here _ | apply Out.there)); rfl; rfl; simp; intro wr6_4 hsr6_4; (try simp only [aP] at hsr6_4); (try simp only [aS] at hsr6_4); (try simp only [aZ] at hsr6_4)) | ((with_reducible apply st_store_own); assumption; rfl; (go_simp; rfl); (repeat (first | with_reducible exact Out.here _ | apply Out.there)); rfl; rfl; omega; intro wr6_4 hsr6_4))
    refine hKp.out _ _ ?_
    clear hKp Kp
    (try dsimp only [Act.put])
    refine pl_done ?_
    refine hK7.out _ _ ?_
    (try clear hK7 K7)
    refine wk_reg ?_
    iterate 3 (refine pl_take (v := ?_) rfl ?_ ?_; rotate_left; (· (go_simp; first | done | with_reducible rfl | rfl | omega | assumption | (simp; omega))); (try simp only [Act.put, aP, aZ, aS]))
    refine pl_done ?_
    show Code.rounds _ _ _ _ _ _
    rw [rounds_succ]
    refine wk_seq (fun K5 hK5 => ?_)
    refine wk_seq (fun K6 hK6 => ?_)
    refine wk_reg ?_
    refine pl_take (v := ?_) rfl ?_ ?_
    rotate_left
    · (go_simp; first | done | with_reducible rfl | rfl | omega | assumption | (simp; omega))
    (try simp only [Act.put, aP, aZ, aS])
    refine pl_take (v := .bool true) rfl ?_ ?_
    · (go_simp; first | done | with_reducible rfl | rfl | omega | assumption | (simp; omega))
    (try simp only [Act.put, aP, aZ, aS])
    refine pl_done ?_
    refine hK6.out _ _ ?_
    (try clear hK6 K6)
    refine wp_cond_true rfl ?_
    refine wp_skip ?_
    refine hK5.out _ _ ?_
    (try clear hK5 K5)
    refine wk_seq (fun K7 hK7 => ?_)
    refine wp_block ?_
    refine wk_reg ?_
    iterate 2 (refine pl_take (v := ?_) rfl ?_ ?_; rotate_left; (· (go_simp; first | done | with_reducible rfl | rfl | omega | assumption | (simp; omega))); (try simp only [Act.put, aP, aZ, aS]))
    refine pl_eff rfl (fun Kp hKp => ?_)
    go_simp
    (refine (c3 _ _ _ _ ((by assumption : Sat w0 _ _).pick (.cons (by (repeat (first | with_reducible exact Out.here _ | apply Out.there))) (.cons (by (repeat (first | with_reducible exact Out.here _ | apply Out.there))) (.tail _))))).mono ?_; rintro e23 w23 ⟨rfl, hs23⟩)
    (try go_wp2_with fail)
    refine hKp.out _ _ ?_
    clear hKp Kp
    (try simp only [Act.put, aP, aZ, aS])
    refine pl_take (v := ?_) rfl ?_ ?_
    rotate_left
    · (go_simp; first | done | with_reducible rfl | rfl | omega | assumption | (simp; omega))
    (try simp only [Act.put, aP, aZ, aS])
    refine pl_eff rfl (fun Kp hKp => ?_)
    (first | ((with_reducible apply st_store1); assumption; rfl; (go_simp; rfl); (repeat (first | with_reducible exact Out.here _ | apply Out.there)); rfl; rfl; simp; intro wr6_4 hsr6_4; (try simp only [aP] at hsr6_4); (try simp only [aS] at hsr6_4); (try simp only [aZ] at hsr6_4)) | ((with_reducible apply st_store_own); assumption; rfl; (go_simp; rfl); (repeat (first | with_reducible exact Out.here _ | apply Out.there)); rfl; rfl; omega; intro wr6_4 hsr6_4))
    refine hKp.out _ _ ?_
    clear hKp Kp
    (try dsimp only [Act.put])
    refine pl_done ?_
    refine hK7.out _ _ ?_
    (try clear hK7 K7)
    refine wk_reg ?_
    iterate 3 (refine pl_take (v := ?_) rfl ?_ ?_; rotate_left; (· (go_simp; first | done | with_reducible rfl | rfl | omega | assumption | (simp; omega))); (try simp only [Act.put, aP, aZ, aS]))
    refine pl_done ?_
    show Code.rounds _ _ _ _ _ _
    rw [rounds_succ]
    refine wk_seq (fun K5 hK5 => ?_)
    refine wk_seq (fun K6 hK6 => ?_)
    refine wk_reg ?_
    refine pl_take (v := ?_) rfl ?_ ?_
    rotate_left
    · (go_simp; first | done | with_reducible rfl | rfl | omega | assumption | (simp; omega))
    (try simp only [Act.put, aP, aZ, aS])
    refine pl_take (v := .bool true) rfl ?_ ?_
    · (go_simp; first | done | with_reducible rfl | rfl | omega | assumption | (simp; omega))
    (try simp only [Act.put, aP, aZ, aS])
    refine pl_done ?_
    refine hK6.out _ _ ?_
    (try clear hK6 K6)
    refine wp_cond_true rfl ?_
    refine wp_skip ?_
    refine hK5.out _ _ ?_
    (try clear hK5 K5)
    refine wk_seq (fun K7 hK7 => ?_)
    refine wp_block ?_
    refine wk_reg ?_
    iterate 2 (refine pl_take (v := ?_) rfl ?_ ?_; rotate_left; (· (go_simp; first | done | with_reducible rfl | rfl | omega | assumption | (simp; omega))); (try simp only [Act.put, aP, aZ, aS]))
    refine pl_eff rfl (fun Kp hKp => ?_)
    go_simp
    (refine (c4 _ _ _ _ ((by assumption : Sat w0 _ _).pick (.cons (by (repeat (first | with_reducible exact Out.here _ | apply Out.there))) (.cons (by (repeat (first | with_reducible exact Out.here _ | apply Out.there))) (.tail _))))).mono ?_; rintro e23 w23 ⟨rfl, hs23⟩)
    (try go_wp2_with fail)
    refine hKp.out _ _ ?_
    clear hKp Kp
    (try simp only [Act.put, aP, aZ, aS])
    refine pl_take (v := ?_) rfl ?_ ?_
    rotate_left
    · (go_simp; first | done | with_reducible rfl | rfl | omega | assumption | (simp; omega))
    (try simp only [Act.put, aP, aZ, aS])
    refine pl_eff rfl (fun Kp hKp => ?_)
    (first | ((with_reducible apply st_store1); assumption; rfl; (go_simp; rfl); (repeat (first | with_reducible exact Out.here _ | apply Out.there)); rfl; rfl; simp; intro wr6_4 hsr6_4; (try simp only [aP] at hsr6_4); (try simp only [aS] at hsr6_4); (try simp only [aZ] at hsr6_4)) | ((with_reducible apply st_store_own); assumption; rfl; (go_simp; rfl); (repeat (first | with_reducible exact Out.here _ | apply Out.there)); rfl; rfl; omega; intro wr6_4 hsr6_4))
    refine hKp.out _ _ ?_
    clear hKp Kp
    (try dsimp only [Act.put])
    refine pl_done ?_
    refine hK7.out _ _ ?_
    (try clear hK7 K7)
    refine wk_reg ?_
    iterate 3 (refine pl_take (v := ?_) rfl ?_ ?_; rotate_left; (· (go_simp; first | done | with_reducible rfl | rfl | omega | assumption | (simp; omega))); (try simp only [Act.put, aP, aZ, aS]))
    refine pl_done ?_
    show Code.rounds _ _ _ _ _ _
    rw [rounds_succ]
    refine wk_seq (fun K5 hK5 => ?_)
    refine wk_seq (fun K6 hK6 => ?_)
    refine wk_reg ?_
    refine pl_take (v := ?_) rfl ?_ ?_
    rotate_left
    · (go_simp; first | done | with_reducible rfl | rfl | omega | assumption | (simp; omega))
    (try simp only [Act.put, aP, aZ, aS])
    refine pl_take (v := .bool true) rfl ?_ ?_
    · (go_simp; first | done | with_reducible rfl | rfl | omega | assumption | (simp; omega))
    (try simp only [Act.put, aP, aZ, aS])
    refine pl_done ?_
    refine hK6.out _ _ ?_
    (try clear hK6 K6)
    refine wp_cond_true rfl ?_
    refine wp_skip ?_
    refine hK5.out _ _ ?_
    (try clear hK5 K5)
    refine wk_seq (fun K7 hK7 => ?_)
    refine wp_block ?_
    refine wk_reg ?_
    iterate 2 (refine pl_take (v := ?_) rfl ?_ ?_; rotate_left; (· (go_simp; first | done | with_reducible rfl | rfl | omega | assumption | (simp; omega))); (try simp only [Act.put, aP, aZ, aS]))
    refine pl_eff rfl (fun Kp hKp => ?_)
    go_simp
    (refine (c5 _ _ _ _ ((by assumption : Sat w0 _ _).pick (.cons (by (repeat (first | with_reducible exact Out.here _ | apply Out.there))) (.cons (by (repeat (first | with_reducible exact Out.here _ | apply Out.there))) (.tail _))))).mono ?_; rintro e23 w23 ⟨rfl, hs23⟩)
    (try go_wp2_with fail)
    refine hKp.out _ _ ?_
    clear hKp Kp
    (try simp only [Act.put, aP, aZ, aS])
    refine pl_take (v := ?_) rfl ?_ ?_
    rotate_left
    · (go_simp; first | done | with_reducible rfl | rfl | omega | assumption | (simp; omega))
    (try simp only [Act.put, aP, aZ, aS])
    refine pl_eff rfl (fun Kp hKp => ?_)
    (first | ((with_reducible apply st_store1); assumption; rfl; (go_simp; rfl); (repeat (first | with_reducible exact Out.here _ | apply Out.there)); rfl; rfl; simp; intro wr6_4 hsr6_4; (try simp only [aP] at hsr6_4); (try simp only [aS] at hsr6_4); (try simp only [aZ] at hsr6_4)) | ((with_reducible apply st_store_own); assumption; rfl; (go_simp; rfl); (repeat (first | with_reducible exact Out.here _ | apply Out.there)); rfl; rfl; omega; intro wr6_4 hsr6_4))
    refine hKp.out _ _ ?_
    clear hKp Kp
    (try dsimp only [Act.put])
    refine pl_done ?_
    refine hK7.out _ _ ?_
    (try clear hK7 K7)
    refine wk_reg ?_
    iterate 3 (refine pl_take (v := ?_) rfl ?_ ?_; rotate_left; (· (go_simp; first | done | with_reducible rfl | rfl | omega | assumption | (simp; omega))); (try simp only [Act.put, aP, aZ, aS]))
    refine pl_done ?_
    show Code.rounds _ _ _ _ _ _
    rw [rounds_succ]
    refine wk_seq (fun K5 hK5 => ?_)
    refine wk_seq (fun K6 hK6 => ?_)
    refine wk_reg ?_
    refine pl_take (v := ?_) rfl ?_ ?_
    rotate_left
    · (go_simp; first | done | with_reducible rfl | rfl | omega | assumption | (simp; omega))
    (try simp only [Act.put, aP, aZ, aS])
    refine pl_take (v := .bool true) rfl ?_ ?_
    · (go_simp; first | done | with_reducible rfl | rfl | omega | assumption | (simp; omega))
    (try simp only [Act.put, aP, aZ, aS])
    refine pl_done ?_
    refine hK6.out _ _ ?_
    (try clear hK6 K6)
    refine wp_cond_true rfl ?_
    refine wp_skip ?_
    refine hK5.out _ _ ?_
    (try clear hK5 K5)
    refine wk_seq (fun K7 hK7 => ?_)
    refine wp_block ?_
    refine wk_reg ?_
    iterate 2 (refine pl_take (v := ?_) rfl ?_ ?_; rotate_left; (· (go_simp; first | done | with_reducible rfl | rfl | omega | assumption | (simp; omega))); (try simp only [Act.put, aP, aZ, aS]))
    refine pl_eff rfl (fun Kp hKp => ?_)
    go_simp
    (refine (c6 _ _ _ _ ((by assumption : Sat w0 _ _).pick (.cons (by (repeat (first | with_reducible exact Out.here _ | apply Out.there))) (.cons (by (repeat (first | with_reducible exact Out.here _ | apply Out.there))) (.tail _))))).mono ?_; rintro e23 w23 ⟨rfl, hs23⟩)
    (try go_wp2_with fail)
    refine hKp.out _ _ ?_
    clear hKp Kp
    (try simp only [Act.put, aP, aZ, aS])
    refine pl_take (v := ?_) rfl ?_ ?_
    rotate_left
    · (go_simp; first | done | with_reducible rfl | rfl | omega | assumption | (simp; omega))
    (try simp only [Act.put, aP, aZ, aS])
    refine pl_eff rfl (fun Kp hKp => ?_)
    (first | ((with_reducible apply st_store1); assumption; rfl; (go_simp; rfl); (repeat (first | with_reducible exact Out.here _ | apply Out.there)); rfl; rfl; simp; intro wr6_4 hsr6_4; (try simp only [aP] at hsr6_4); (try simp only [aS] at hsr6_4); (try simp only [aZ] at hsr6_4)) | ((with_reducible apply st_store_own); assumption; rfl; (go_simp; rfl); (repeat (first | with_reducible exact Out.here _ | apply Out.there)); rfl; rfl; omega; intro wr6_4 hsr6_4))
    refine hKp.out _ _ ?_
    clear hKp Kp
    (try dsimp only [Act.put])
    refine pl_done ?_
    refine hK7.out _ _ ?_
    (try clear hK7 K7)
    refine wk_reg ?_
    iterate 3 (refine pl_take (v := ?_) rfl ?_ ?_; rotate_left; (· (go_simp; first | done | with_reducible rfl | rfl | omega | assumption | (simp; omega))); (try simp only [Act.put, aP, aZ, aS]))
    refine pl_done ?_
    show Code.rounds _ _ _ _ _ _
    rw [rounds_succ]
    refine wk_seq (fun K5 hK5 => ?_)
    refine wk_seq (fun K6 hK6 => ?_)
    refine wk_reg ?_
    refine pl_take (v := ?_) rfl ?_ ?_
    rotate_left
    · (go_simp; first | done | with_reducible rfl | rfl | omega | assumption | (simp; omega))
    (try simp only [Act.put, aP, aZ, aS])
    refine pl_take (v := .bool true) rfl ?_ ?_
    · (go_simp; first | done | with_reducible rfl | rfl | omega | assumption | (simp; omega))
    (try simp only [Act.put, aP, aZ, aS])
    refine pl_done ?_
    refine hK6.out _ _ ?_
    (try clear hK6 K6)
    refine wp_cond_true rfl ?_
    refine wp_skip ?_
    refine hK5.out _ _ ?_
    (try clear hK5 K5)
    refine wk_seq (fun K7 hK7 => ?_)
    refine wp_block ?_
    refine wk_reg ?_
    iterate 2 (refine pl_take (v := ?_) rfl ?_ ?_; rotate_left; (· (go_simp; first | done | with_reducible rfl | rfl | omega | assumption | (simp; omega))); (try simp only [Act.put, aP, aZ, aS]))
    refine pl_eff rfl (fun Kp hKp => ?_)
    go_simp
    (refine (c7 _ _ _ _ ((by assumption : Sat w0 _ _).pick (.cons (by (repeat (first | with_reducible exact Out.here _ | apply Out.there))) (.cons (by (repeat (first | with_reducible exact Out.here _ | apply Out.there))) (.tail _))))).mono ?_; rintro e23 w23 ⟨rfl, hs23⟩)
    (try go_wp2_with fail)
    refine hKp.out _ _ ?_
    clear hKp Kp
    (try simp only [Act.put, aP, aZ, aS])
    refine pl_take (v := ?_) rfl ?_ ?_
    rotate_left
    · (go_simp; first | done | with_reducible rfl | rfl | omega | assumption | (simp; omega))
    (try simp only [Act.put, aP, aZ, aS])
    refine pl_eff rfl (fun Kp hKp => ?_)
    (first | ((with_reducible apply st_store1); assumption; rfl; (go_simp; rfl); (repeat (first | with_reducible exact Out.here _ | apply Out.there)); rfl; rfl; simp; intro wr6_4 hsr6_4; (try simp only [aP] at hsr6_4); (try simp only [aS] at hsr6_4); (try simp only [aZ] at hsr6_4)) | ((with_reducible apply st_store_own); assumption; rfl; (go_simp; rfl); (repeat (first | with_reducible exact Out.here _ | apply Out.there)); rfl; rfl; omega; intro wr6_4 hsr6_4))
    refine hKp.out _ _ ?_
    clear hKp Kp
    (try dsimp only [Act.put])
    refine pl_done ?_
    refine hK7.out _ _ ?_
    (try clear hK7 K7)
    refine wk_reg ?_
    iterate 3 (refine pl_take (v := ?_) rfl ?_ ?_; rotate_left; (· (go_simp; first | done | with_reducible rfl | rfl | omega | assumption | (simp; omega))); (try simp only [Act.put, aP, aZ, aS]))
    refine pl_done ?_
    show Code.rounds _ _ _ _ _ _
    rw [rounds_succ]
    refine wk_seq (fun K5 hK5 => ?_)
    refine wk_seq (fun K6 hK6 => ?_)
    refine wk_reg ?_
    refine pl_take (v := ?_) rfl ?_ ?_
    rotate_left
    · (go_simp; first | done | with_reducible rfl | rfl | omega | assumption | (simp; omega))
    (try simp only [Act.put, aP, aZ, aS])
    refine pl_take (v := .bool true) rfl ?_ ?_
    · (go_simp; first | done | with_reducible rfl | rfl | omega | assumption | (simp; omega))
    (try simp only [Act.put, aP, aZ, aS])
    refine pl_done ?_
    refine hK6.out _ _ ?_
    (try clear hK6 K6)
    refine wp_cond_true rfl ?_
    refine wp_skip ?_
    refine hK5.out _ _ ?_
    (try clear hK5 K5)
    refine wk_seq (fun K7 hK7 => ?_)
    refine wp_block ?_
    refine wk_reg ?_
    iterate 2 (refine pl_take (v := ?_) rfl ?_ ?_; rotate_left; (· (go_simp; first | done | with_reducible rfl | rfl | omega | assumption | (simp; omega))); (try simp only [Act.put, aP, aZ, aS]))
    refine pl_eff rfl (fun Kp hKp => ?_)
    go_simp
    (refine (c8 _ _ _ _ ((by assumption : Sat w0 _ _).pick (.cons (by (repeat (first | with_reducible exact Out.here _ | apply Out.there))) (.cons (by (repeat (first | with_reducible exact Out.here _ | apply Out.there))) (.tail _))))).mono ?_; rintro e23 w23 ⟨rfl, hs23⟩)
    (try go_wp2_with fail)
    refine hKp.out _ _ ?_
    clear hKp Kp
    (try simp only [Act.put, aP, aZ, aS])
    refine pl_take (v := ?_) rfl ?_ ?_
    rotate_left
    · (go_simp; first | done | with_reducible rfl | rfl | omega | assumption | (simp; omega))
    (try simp only [Act.put, aP, aZ, aS])
    refine pl_eff rfl (fun Kp hKp => ?_)
    (first | ((with_reducible apply st_store1); assumption; rfl; (go_simp; rfl); (repeat (first | with_reducible exact Out.here _ | apply Out.there)); rfl; rfl; simp; intro wr6_4 hsr6_4; (try simp only [aP] at hsr6_4); (try simp only [aS] at hsr6_4); (try simp only [aZ] at hsr6_4)) | ((with_reducible apply st_store_own); assumption; rfl; (go_simp; rfl); (repeat (first | with_reducible exact Out.here _ | apply Out.there)); rfl; rfl; omega; intro wr6_4 hsr6_4))
    refine hKp.out _ _ ?_
    clear hKp Kp
    (try dsimp only [Act.put])
    refine pl_done ?_
    refine hK7.out _ _ ?_
    (try clear hK7 K7)
    refine wk_reg ?_
    iterate 3 (refine pl_take (v := ?_) rfl ?_ ?_; rotate_left; (· (go_simp; first | done | with_reducible rfl | rfl | omega | assumption | (simp; omega))); (try simp only [Act.put, aP, aZ, aS]))
    refine pl_done ?_
    show Code.rounds _ _ _ _ _ _
    rw [rounds_succ]
    refine wk_seq (fun K5 hK5 => ?_)
    refine wk_seq (fun K6 hK6 => ?_)
    refine wk_reg ?_
    refine pl_take (v := ?_) rfl ?_ ?_
    rotate_left
    · (go_simp; first | done | with_reducible rfl | rfl | omega | assumption | (simp; omega))
    (try simp only [Act.put, aP, aZ, aS])
    refine pl_take (v := .bool true) rfl ?_ ?_
    · (go_simp; first | done | with_reducible rfl | rfl | omega | assumption | (simp; omega))
    (try simp only [Act.put, aP, aZ, aS])
    refine pl_done ?_
    refine hK6.out _ _ ?_
    (try clear hK6 K6)
    refine wp_cond_true rfl ?_
    refine wp_skip ?_
    refine hK5.out _ _ ?_
    (try clear hK5 K5)
    refine wk_seq (fun K7 hK7 => ?_)
    refine wp_block ?_
    refine wk_reg ?_
    iterate 2 (refine pl_take (v := ?_) rfl ?_ ?_; rotate_left; (· (go_simp; first | done | with_reducible rfl | rfl | omega | assumption | (simp; omega))); (try simp only [Act.put, aP, aZ, aS]))
    refine pl_eff rfl (fun Kp hKp => ?_)
    go_simp
    (refine (c9 _ _ _ _ ((by assumption : Sat w0 _ _).pick (.cons (by (repeat (first | with_reducible exact Out.here _ | apply Out.there))) (.cons (by (repeat (first | with_reducible exact Out.here _ | apply Out.there))) (.tail _))))).mono ?_; rintro e23 w23 ⟨rfl, hs23⟩)
    (try go_wp2_with fail)
    refine hKp.out _ _ ?_
    clear hKp Kp
    (try simp only [Act.put, aP, aZ, aS])
    refine pl_take (v := ?_) rfl ?_ ?_
    rotate_left
    · (go_simp; first | done | with_reducible rfl | rfl | omega | assumption | (simp; omega))
    (try simp only [Act.put, aP, aZ, aS])
    refine pl_eff rfl (fun Kp hKp => ?_)
    (first | ((with_reducible apply st_store1); assumption; rfl; (go_simp; rfl); (repeat (first | with_reducible exact Out.here _ | apply Out.there)); rfl; rfl; simp; intro wr6_4 hsr6_4; (try simp only [aP] at hsr6_4); (try simp only [aS] at hsr6_4); (try simp only [aZ] at hsr6_4)) | ((with_reducible apply st_store_own); assumption; rfl; (go_simp; rfl); (repeat (first | with_reducible exact Out.here _ | apply Out.there)); rfl; rfl; omega; intro wr6_4 hsr6_4))
    refine hKp.out _ _ ?_
    clear hKp Kp
    (try dsimp only [Act.put])
    refine pl_done ?_
    refine hK7.out _ _ ?_
    (try clear hK7 K7)
    refine wk_reg ?_
    iterate 3 (refine pl_take (v := ?_) rfl ?_ ?_; rotate_left; (· (go_simp; first | done | with_reducible rfl | rfl | omega | assumption | (simp; omega))); (try simp only [Act.put, aP, aZ, aS]))
    refine pl_done ?_
    show Code.rounds _ _ _ _ _ _
    rw [rounds_succ]
    refine wk_seq (fun K5 hK5 => ?_)
    refine wk_seq (fun K6 hK6 => ?_)
    refine wk_reg ?_
    refine pl_take (v := ?_) rfl ?_ ?_
    rotate_left
    · (go_simp; first | done | with_reducible rfl | rfl | omega | assumption | (simp; omega))
    (try simp only [Act.put, aP, aZ, aS])
    refine pl_take (v := .bool false) rfl ?_ ?_
    · (go_simp; first | done | with_reducible rfl | rfl | omega | assumption | (simp; omega))
    (try simp only [Act.put, aP, aZ, aS])
    refine pl_done ?_
    refine hK6.out _ _ ?_
    (try clear hK6 K6)
    refine wp_cond_false rfl ?_
    refine wp_exit ?_
    refine (by assumption : ∀ a' w', Met _ a' w' → _) _ _ ?_
    go_meet
    case rel => exact (by assumption : Sat w0 _ _).pick (by (repeat (first | exact Pick.nil _ | exact Pick.tail _ | exact Out.here _ | apply Out.there | apply Pick.cons | apply Pick.drop)))
  case rest =>
    clear c1 c2 c3 c4 c5 c6 c7 c8 c9
    refine hK3.out _ _ ?_
    clear hK3 K3
    refine wk_seq (fun K8 hK8 => ?_)
    refine wk_reg ?_
    iterate 20 (refine pl_take (v := ?_) rfl ?_ ?_; rotate_left; (· (first | ((with_reducible apply yl_load); assumption; rfl; (repeat (first | with_reducible assumption | ((with_reducible apply Cl.own); exact rfl) | ((with_reducible apply Cl.blkL); exact rfl) | with_reducible apply Cl.cons)); rfl) | (go_simp; first | done | with_reducible rfl | rfl | omega | assumption | (simp; omega)))); (try simp only [Act.put, aP, aZ, aS]))
    refine pl_eff rfl (fun Kp hKp => ?_)
    ((with_reducible apply st_alloc); assumption; intro b7 w7 hs7; simp only [Value.cells] at hs7)
    refine hKp.out _ _ ?_
    clear hKp Kp
    (try simp only [Act.put, aP, aZ, aS])
    refine pl_eff rfl (fun Kp hKp => ?_)
    (first | ((with_reducible apply st_storeAll); assumption; rfl; (go_simp; rfl); (repeat (first | with_reducible exact Out.here _ | apply Out.there)); rfl; (focus (first | (simp [Value.oneCell']; done) | (simp [Value.cells, Value.oneCell']; done))); rfl; intro wr7_21 hsr7_21; simp only [Value.cells] at hsr7_21) | ((with_reducible apply st_store); assumption; rfl; (go_simp; rfl); (repeat (first | with_reducible exact Out.here _ | apply Out.there)); rfl; (first | (focus (simp [Value.oneCell']; done)) | (simp [Value.cells, Value.oneCell'])); (first | (focus (simp; done)) | (simp [Value.cells])); intro wr7_21 hsr7_21; simp only [upd, Value.cells] at hsr7_21))
    refine hKp.out _ _ ?_
    clear hKp Kp
    (try dsimp only [Act.put])
    refine pl_done ?_
    refine hK8.out _ _ ?_
    (try clear hK8 K8)
    refine wk_seq (fun K9 hK9 => ?_)
    refine wk_reg ?_
    iterate 4 (refine pl_take (v := ?_) rfl ?_ ?_; rotate_left; (· (first | ((with_reducible apply yl_load); assumption; rfl; (repeat (first | with_reducible assumption | ((with_reducible apply Cl.own); exact rfl) | ((with_reducible apply Cl.blkL); exact rfl) | with_reducible apply Cl.cons)); rfl) | (go_simp; first | done | with_reducible rfl | rfl | omega | assumption | (simp; omega)))); (try simp only [Act.put, aP, aZ, aS]))
    refine pl_done ?_
    refine hK9.out _ _ ?_
    (try clear hK9 K9)
    refine wk_seq (fun K10 hK10 => ?_)
    -- at a cut
    go_cut [8] from 48 to 78 (fun s8 w => ∃ (ok : Bool) (es : List Ent) (ys : List (Ent × Option Addr × Nat)) (A9 : Option Addr) (ca9 : Nat) (ef : Int) (rf : List UInt8), s8 = .bool ok ∧ ys.map (·.1) = es ∧ es.length ≤ 9 ∧ rf.length ≤ 1048576 ∧ Hid (∀ x ∈ es, x.d.length ≤ 1048576 ∧ In64 x.t ∧ In64 x.i ∧ In64 x.k) ∧ Hid (n1 ≠ 5 → rdMsg b = (⟨n1, n2, n3, n4, n5, n6, n7, n8, yes, es, [], []⟩, ok, ef, rf)) ∧ Hid (n1 = 5 → ok = ok1 ∧ es = [] ∧ ef = e9 ∧ rf = r9) ∧ Sat w0 w (own 41 4 A9 ca9 es.length (entsCells ys) :: DV (entsData ys) :: blk b7 (.cells #[.int .i64 n1, .int .i64 n2, .int .i64 n3, .int .i64 n4, .int .i64 n5, .int .i64 n6, .int .i64 n7, .int .i64 n8, .bool yes, .slice A9 es.length ca9, .slice none 0 0, .slice none 0 0] 26 (0, 0)) :: RR br q ef rf :: br :: blk b2 (.cells #[.int .i64 0, .int .i64 0, .int .i64 0, .int .i64 0, .int .i64 0, .int .i64 0, .int .i64 0, .int .i64 0, .bool false, .slice none 0 0, .slice none 0 0, .slice none 0 0] 26 (0, 0)) :: L))
    case first =>
      by_cases k3 : n1 = 3
      · subst k3
        obtain ⟨⟨n, en, rn⟩, xn⟩ : ∃ x, rdNumber e9 r9 = x := ⟨_, rfl⟩
        have ln := (rdNumber_ok xn).2.2.1
        have q0 := (rdNumber_ok xn).1
        have cn := fun (w : World) (L : List HP) (buf : HP) (p : Nat) (hs : Sat w0 w (RR buf p e9 r9 :: buf :: L)) => refNumberR e9 r9 hs
        rw [xn] at cn
        obtain ⟨N, rfl⟩ : ∃ N : Nat, n = (N : Int) := ⟨n.toNat, by omega⟩
        have Hfin : Hid (∀ zs ek rk, rdEnts (min N 9) en rn = (zs, ek, rk) → rdMsg b = (⟨3, n2, n3, n4, n5, n6, n7, n8, yes, zs.map (·.1), [], []⟩, ok1 && zs.all (fun y => y.2 == 0), ek, rk)) := Hid.mk' (fun zs ek rk h1 => by
          rw [rdMsg_three (zs := zs) (ez := ek) (rz := rk) HM.out rfl xn (by rw [Int.toNat_natCast]; exact h1), hyes, hok1])
        clear xn
        refine wk_seq (fun K11 hK11 => ?_)
        refine wk_reg ?_
        iterate 2 (refine pl_take (v := ?_) rfl ?_ ?_; rotate_left; (· (first | ((with_reducible apply yl_load); assumption; rfl; (repeat (first | with_reducible assumption | ((with_reducible apply Cl.own); exact rfl) | ((with_reducible apply Cl.blkL); exact rfl) | with_reducible apply Cl.cons)); rfl) | (go_simp; first | done | with_reducible rfl | rfl | omega | assumption | (simp; omega)))); (try simp only [Act.put, aP, aZ, aS]))
        refine pl_take (v := .bool true) rfl ?_ ?_
        · (go_simp; first | done | with_reducible rfl | rfl | omega | assumption | (simp; omega))
        (try simp only [Act.put, aP, aZ, aS])
        refine pl_done ?_
        refine hK11.out _ _ ?_
        (try clear hK11 K11)
        refine wp_cond_true rfl ?_
        refine wk_seq (fun K12 hK12 => ?_)
        refine wk_reg ?_
        refine pl_take (v := ?_) rfl ?_ ?_
        rotate_left
        · (go_simp; first | done | with_reducible rfl | rfl | omega | assumption | (simp; omega))
        (try simp only [Act.put, aP, aZ, aS])
        refine pl_eff rfl (fun Kp hKp => ?_)
        go_simp
        (refine (cn _ _ _ _ ((by assumption : Sat w0 _ _).pick (.cons (by (repeat (first | with_reducible exact Out.here _ | apply Out.there))) (.cons (by (repeat (first | with_reducible exact Out.here _ | apply Out.there))) (.tail _))))).mono ?_; rintro e52 w52 ⟨rfl, hs52⟩)
        (try go_wp2_with fail)
        refine hKp.out _ _ ?_
        clear hKp Kp
        (try simp only [Act.put, aP, aZ, aS])
        refine pl_take (v := ?_) rfl ?_ ?_
        rotate_left
        · (go_simp; first | done | with_reducible rfl | rfl | omega | assumption | (simp; omega))
        (try simp only [Act.put, aP, aZ, aS])
        refine pl_done ?_
        refine hK12.out _ _ ?_
        (try clear hK12 K12)
        refine wk_seq (fun K13 hK13 => ?_)
        refine wk_reg ?_
        refine pl_take (v := ?_) rfl ?_ ?_
        rotate_left
        · (go_simp; first | done | with_reducible rfl | rfl | omega | assumption | (simp; omega))
        (try simp only [Act.put, aP, aZ, aS])
        refine pl_done ?_
        refine hK13.out _ _ ?_
        (try clear hK13 K13)
        refine wp_block ?_
        -- at a loop
        go_loopw [8, 10] (fun s8 i wr => ∃ (k : Nat) (A4 : Option Addr) (c4 : Nat) (ys : List (Ent × Option Addr × Nat)) (ek : Int) (rk : List UInt8) (ok : Bool), s8 = .bool ok ∧ i = .int .i64 k ∧ k ≤ N ∧ k ≤ 9 ∧ ys.length = k ∧ rk.length ≤ 1048576 ∧ Hid (∃ zs : List (Ent × Int), rdEnts k en rn = (zs, ek, rk) ∧ zs.map (·.1) = ys.map (·.1) ∧ ok = (ok1 && zs.all (fun y => y.2 == 0))) ∧ Hid (∀ x ∈ ys.map (·.1), x.d.length ≤ 1048576 ∧ In64 x.t ∧ In64 x.i ∧ In64 x.k) ∧ Sat w0 wr (own 41 4 A4 c4 k (entsCells ys) :: DV (entsData ys) :: blk b7 (.cells #[.int .i64 3, .int .i64 n2, .int .i64 n3, .int .i64 n4, .int .i64 n5, .int .i64 n6, .int .i64 n7, .int .i64 n8, .bool yes, .slice A4 k c4, .slice none 0 0, .slice none 0 0] 26 (0, 0)) :: RR br q ek rk :: br :: blk b2 (.cells #[.int .i64 0, .int .i64 0, .int .i64 0, .int .i64 0, .int .i64 0, .int .i64 0, .int .i64 0, .int .i64 0, .bool false, .slice none 0 0, .slice none 0 0, .slice none 0 0] 26 (0, 0)) :: L)) (fun _ i _ => 10 - (intOf i).toNat)
        case atStart => exact ⟨0, none, 0, [], en, rn, ok1, rfl, rfl, Nat.zero_le _, Nat.zero_le _, rfl, by omega, ⟨[], rfl, rfl, by simp⟩, Hid.mk' (fun x hx => by cases hx), (((by assumption : Sat w0 _ _).own_nil 41 4).dv_nil).pick (by (repeat (first | exact Pick.nil _ | exact Pick.tail _ | exact Out.here _ | apply Out.there | apply Pick.cons | apply Pick.drop)))⟩
        case round =>
          obtain ⟨k, A4, c4, ys, ek, rk, ok, rfl, rfl, hk, hk9, hyl, hrl, Hk, Hin, hsC⟩ := hrel
          by_cases hlt : k < N
          · by_cases h9 : k < 9
            · obtain ⟨⟨y, ev, rv⟩, xv⟩ : ∃ x, rdBytes ek rk = x := ⟨_, rfl⟩
              obtain ⟨lv1, lv2⟩ := rdBytes_len xv
              have hgi := getEntry_in y
              obtain ⟨⟨⟨t, i, p, d⟩, g⟩, xg⟩ : ∃ x, getEntry y = x := ⟨_, rfl⟩
              rw [xg] at hgi
              simp only at hgi
              have cv := fun (w : World) (L : List HP) (buf : HP) (p : Nat) (hs : Sat w0 w (RR buf p ek rk :: buf :: L)) => refBytesR ek rk hs
              rw [xv] at cv
              have cg := fun (w : World) (L : List HP) (A : Option Addr) (c : Nat) (hs : Sat w0 w L) (hR : Rd w0 L A y.length 1 (B8 y)) => refGetEntry_spec (c := c) y (by omega) hs hR
              rw [xg] at cg
              have i0 : (0 : Int) ≤ (k : Int) := by omega
              have i1 : (k : Int) < (N : Int) := by omega
              have i2 : (k : Int) ≤ 8 := by omega
              have hwk : IntKind.i64.wrap ((k : Int) + 1) = (k : Int) + 1 := IntWalk.i64_in _ (by omega)
              obtain ⟨zs, hz1, hz2, hokz0⟩ := Hk.out
              have hokz := Hid.mk' hokz0
              have Hk2 : Hid (rdEnts (k + 1) en rn = (zs ++ [(⟨t, i, p, d⟩, g)], ev, rv) ∧ zs.map (·.1) = ys.map (·.1)) := by
                unfold Hid; refine ⟨?_, hz2⟩; rw [rdEnts_succ, hz1]; simp only [xv, xg]
              have Hin2 : Hid (∀ x ∈ List.map (fun y : Ent × Option Addr × Nat => y.1) (ys ++ [((⟨t, i, p, d⟩ : Ent), (none : Option Addr), 0)]), x.d.length ≤ 1048576 ∧ In64 x.t ∧ In64 x.i ∧ In64 x.k) := Hid.mk' (fun x hx => by
                rw [List.map_append, List.mem_append] at hx
                rcases hx with hx | hx
                · exact Hin.out x hx
                · simp only [List.map_cons, List.map_nil, List.mem_singleton] at hx
                  subst hx
                  exact ⟨by simp only; omega, hgi.2.1, hgi.2.2.1, hgi.2.2.2⟩)
              have HinE : Hid (∀ (A5 : Option Addr) (c5 : Nat), ∀ x ∈ List.map (fun y : Ent × Option Addr × Nat => y.1) (ys ++ [((⟨t, i, p, d⟩ : Ent), A5, c5)]), x.d.length ≤ 1048576 ∧ In64 x.t ∧ In64 x.i ∧ In64 x.k) := Hid.mk' (fun A5 c5 x hx => Hin2.out x (by rw [List.map_append] at hx ⊢; exact hx))
              clear xv xg Hk Hin hgi Hin2 hz1 hz2 hokz0
              cases ok with
              | true =>
                by_cases g0 : g = 0
                · subst g0
                  refine wk_seq (fun K14 hK14 => ?_)
                  refine wk_seq (fun K15 hK15 => ?_)
                  refine wk_reg ?_
                  iterate 2 (refine pl_take (v := ?_) rfl ?_ ?_; rotate_left; (· (go_simp; first | done | with_reducible rfl | rfl | omega | assumption | (simp; omega))); (try simp only [Act.put, aP, aZ, aS]))
                  iterate 2 (refine pl_take (v := .bool true) rfl ?_ ?_; (· (go_simp; first | done | with_reducible rfl | rfl | omega | assumption | (simp; omega))); (try simp only [Act.put, aP, aZ, aS]))
                  refine pl_take (v := ?_) (by kernel_rfl) ?_ ?_
                  rotate_left
                  · (go_simp; first | done | with_reducible rfl | rfl | omega | assumption | (simp; omega))
                  (try simp only [Act.put, aP, aZ, aS])
                  refine pl_take (v := .bool true) (by kernel_rfl) ?_ ?_
                  · (go_simp; first | done | with_reducible rfl | rfl | omega | assumption | (simp; omega))
                  (try simp only [Act.put, aP, aZ, aS])
                  refine pl_take (v := .bool true) rfl ?_ ?_
                  · (go_simp; first | done | with_reducible rfl | rfl | omega | assumption | (simp; omega))
                  (try simp only [Act.put, aP, aZ, aS])
                  refine pl_done ?_
                  refine hK15.out _ _ ?_
                  (try clear hK15 K15)
                  refine wp_cond_true rfl ?_
                  refine wp_skip ?_
                  refine hK14.out _ _ ?_
                  (try clear hK14 K14)
                  refine wk_seq (fun K16 hK16 => ?_)
                  refine wp_block ?_
                  refine wk_seq (fun K17 hK17 => ?_)
                  refine wk_reg ?_
                  refine pl_take (v := ?_) rfl ?_ ?_
                  rotate_left
                  · (go_simp; first | done | with_reducible rfl | rfl | omega | assumption | (simp; omega))
                  (try simp only [Act.put, aP, aZ, aS])
                  refine pl_eff rfl (fun Kp hKp => ?_)
                  go_simp
                  (refine (cv _ _ _ _ ((by assumption : Sat w0 _ _).pick (.cons (by (repeat (first | with_reducible exact Out.here _ | apply Out.there))) (.cons (by (repeat (first | with_reducible exact Out.here _ | apply Out.there))) (.tail _))))).mono ?_; rintro e64 w64 ⟨A64, c64, rfl, hs64⟩)
                  (try go_wp2_with fail)
                  refine hKp.out _ _ ?_
                  clear hKp Kp
                  (try simp only [Act.put, aP, aZ, aS])
                  refine pl_eff rfl (fun Kp hKp => ?_)
                  go_simp
                  (refine (cg _ _ _ _ (by assumption) (by (repeat (first | with_reducible assumption | with_reducible exact Rd.own | with_reducible exact Rd.nil | with_reducible apply Rd.cons)))).mono ?_; rintro e65 w65 ⟨A65, c65, rfl, hs65⟩)
                  (try go_wp2_with fail)
                  refine hKp.out _ _ ?_
                  clear hKp Kp
                  (try simp only [Act.put, aP, aZ, aS])
                  iterate 3 (refine pl_take (v := ?_) rfl ?_ ?_; rotate_left; (· (go_simp; first | done | with_reducible rfl | rfl | omega | assumption | (simp; omega))); (try simp only [Act.put, aP, aZ, aS]))
                  refine pl_eff rfl (fun Kp hKp => ?_)
                  ((with_reducible apply st_alloc); assumption; intro b11 w11 hs11; simp only [Value.cells] at hs11)
                  refine hKp.out _ _ ?_
                  clear hKp Kp
                  (try simp only [Act.put, aP, aZ, aS])
                  refine pl_eff rfl (fun Kp hKp => ?_)
                  (first | ((with_reducible apply st_storeAll); assumption; rfl; (go_simp; rfl); (repeat (first | with_reducible exact Out.here _ | apply Out.there)); rfl; (focus (first | (simp [Value.oneCell']; done) | (simp [Value.cells, Value.oneCell']; done))); rfl; intro wr14_7 hsr14_7; simp only [Value.cells] at hsr14_7) | ((with_reducible apply st_store); assumption; rfl; (go_simp; rfl); (repeat (first | with_reducible exact Out.here _ | apply Out.there)); rfl; (first | (focus (simp [Value.oneCell']; done)) | (simp [Value.cells, Value.oneCell'])); (first | (focus (simp; done)) | (simp [Value.cells])); intro wr14_7 hsr14_7; simp only [upd, Value.cells] at hsr14_7))
                  refine hKp.out _ _ ?_
                  clear hKp Kp
                  (try dsimp only [Act.put])
                  refine pl_take (v := ?_) rfl ?_ ?_
                  rotate_left
                  · (go_simp; first | done | with_reducible rfl | rfl | omega | assumption | (simp; omega))
                  (try simp only [Act.put, aP, aZ, aS])
                  refine pl_done ?_
                  refine hK17.out _ _ ?_
                  (try clear hK17 K17)
                  refine wk_seq (fun K18 hK18 => ?_)
                  refine wk_reg ?_
                  refine pl_take (v := ?_) rfl ?_ ?_
                  rotate_left
                  · (go_simp; first | done | with_reducible rfl | rfl | omega | assumption | (simp; omega))
                  (try simp only [Act.put, aP, aZ, aS])
                  refine pl_take (v := .bool true) rfl ?_ ?_
                  · (go_simp; first | done | with_reducible rfl | rfl | omega | assumption | (simp; omega))
                  (try simp only [Act.put, aP, aZ, aS])
                  refine pl_take (v := ?_) (by kernel_rfl) ?_ ?_
                  rotate_left
                  · (go_simp; first | done | with_reducible rfl | rfl | omega | assumption | (simp; omega))
                  (try simp only [Act.put, aP, aZ, aS])
                  refine pl_take (v := .bool true) (by kernel_rfl) ?_ ?_
                  · (go_simp; first | done | with_reducible rfl | rfl | omega | assumption | (simp; omega))
                  (try simp only [Act.put, aP, aZ, aS])
                  iterate 2 (refine pl_take (v := .bool true) rfl ?_ ?_; (· (go_simp; first | done | with_reducible rfl | rfl | omega | assumption | (simp; omega))); (try simp only [Act.put, aP, aZ, aS]))
                  refine pl_done ?_
                  refine hK18.out _ _ ?_
                  (try clear hK18 K18)
                  refine wk_reg ?_
                  iterate 3 (refine pl_take (v := ?_) rfl ?_ ?_; rotate_left; (· (first | ((with_reducible apply yl_load); assumption; rfl; (repeat (first | with_reducible assumption | ((with_reducible apply Cl.own); exact rfl) | ((with_reducible apply Cl.blkL); exact rfl) | with_reducible apply Cl.cons)); rfl) | (first | ((with_reducible apply yl_loadAgg); assumption; rfl; (repeat (first | with_reducible exact Out.here _ | apply Out.there)); (simp); rfl; rfl) | ((with_reducible apply yl_loadAggR); assumption; rfl; (repeat (first | with_reducible assumption | with_reducible exact Rd.own | with_reducible exact Rd.nil | with_reducible apply Rd.cons)); rfl)) | (go_simp; first | done | with_reducible rfl | rfl | omega | assumption | (simp; omega)))); (try simp only [Act.put, aP, aZ, aS]))
                  refine pl_eff rfl (fun Kp hKp => ?_)
                  ((with_reducible apply st_buildOne (sz := 4)); assumption; (go_simp; rfl); rfl; omega; omega; intro b76 w76 hs76; simp only [Value.cells] at hs76)
                  refine hKp.out _ _ ?_
                  clear hKp Kp
                  (try simp only [Act.put, aP, aZ, aS])
                  refine pl_eff rfl (fun Kp hKp => ?_)
                  ((with_reducible apply st_append); go_must (assumption; rfl; rfl; (repeat (first | with_reducible exact Out.here _ | apply Out.there)); (repeat (first | with_reducible assumption | with_reducible exact Rd.own | with_reducible exact Rd.nil | with_reducible apply Rd.cons)); (first | exact B8_one _ | exact I8_one _ | (simp [Value.oneCell'])); (first | omega | (simp only [maxLen]; omega)); omega; intro A77 c77 w77 hs77 hc77; (try ((refine hs77.own_elim ?_ ?_); omega; rintro g77 rfl)); try simp only [Nat.zero_add, List.nil_append] at hs77 hc77))
                  refine hKp.out _ _ ?_
                  clear hKp Kp
                  (try simp only [Act.put, aP, aZ, aS])
                  refine pl_take (v := ?_) rfl ?_ ?_
                  rotate_left
                  · (go_simp; first | done | with_reducible rfl | rfl | omega | assumption | (simp; omega))
                  (try simp only [Act.put, aP, aZ, aS])
                  refine pl_eff rfl (fun Kp hKp => ?_)
                  (first | ((with_reducible apply st_store1); assumption; rfl; (go_simp; rfl); (repeat (first | with_reducible exact Out.here _ | apply Out.there)); rfl; rfl; simp; intro wr16_6 hsr16_6; (try simp only [aP] at hsr16_6); (try simp only [aS] at hsr16_6); (try simp only [aZ] at hsr16_6)) | ((with_reducible apply st_store_own); assumption; rfl; (go_simp; rfl); (repeat (first | with_reducible exact Out.here _ | apply Out.there)); rfl; rfl; omega; intro wr16_6 hsr16_6))
                  refine hKp.out _ _ ?_
                  clear hKp Kp
                  (try dsimp only [Act.put])
                  refine pl_done ?_
                  refine hK16.out _ _ ?_
                  (try clear hK16 K16)
                  refine wk_reg ?_
                  iterate 3 (refine pl_take (v := ?_) rfl ?_ ?_; rotate_left; (· (go_simp; first | done | with_reducible rfl | rfl | omega | assumption | (simp; omega))); (try simp only [Act.put, aP, aZ, aS]))
                  refine pl_done ?_
                  dsimp only [Exit.then]
                  go_roundw
                  case rel => (refine ⟨k + 1, some ⟨g77, 0, none⟩, c77, ys ++ [(⟨t, i, p, d⟩, A65, c65)], ev, rv, true, rfl, by go_num, by omega, by omega, by simp [hyl], by omega, by unfold Hid; exact ⟨_, Hk2.out.1, (by rw [List.map_append, List.map_append, Hk2.out.2]; rfl), (by rw [List.all_append, ← Bool.and_assoc, ← hokz.out]; simp [])⟩, Hid.mk' (HinE.out A65 c65), ?_⟩; rw [entsCells_snoc, entsData_snoc]; refine Sat.dv_snoc2 (E := 5) (c := c65) ?_; exact (by assumption : Sat w0 _ _).pick (by simp only [entCells]; (repeat (first | exact Pick.nil _ | exact Pick.tail _ | exact Out.here _ | apply Out.there | apply Pick.cons | apply Pick.drop))))
                  case measure => simp [intOf]; omega
                · have g1 : (g == 0) = false := by simp [g0]
                  clear g0
                  refine wk_seq (fun K14 hK14 => ?_)
                  refine wk_seq (fun K15 hK15 => ?_)
                  refine wk_reg ?_
                  iterate 2 (refine pl_take (v := ?_) rfl ?_ ?_; rotate_left; (· (go_simp; first | done | with_reducible rfl | rfl | omega | assumption | (simp; omega))); (try simp only [Act.put, aP, aZ, aS]))
                  iterate 2 (refine pl_take (v := .bool true) rfl ?_ ?_; (· (go_simp; first | done | with_reducible rfl | rfl | omega | assumption | (simp; omega))); (try simp only [Act.put, aP, aZ, aS]))
                  refine pl_take (v := ?_) (by kernel_rfl) ?_ ?_
                  rotate_left
                  · (go_simp; first | done | with_reducible rfl | rfl | omega | assumption | (simp; omega))
                  (try simp only [Act.put, aP, aZ, aS])
                  refine pl_take (v := .bool true) (by kernel_rfl) ?_ ?_
                  · (go_simp; first | done | with_reducible rfl | rfl | omega | assumption | (simp; omega))
                  (try simp only [Act.put, aP, aZ, aS])
                  refine pl_take (v := .bool true) rfl ?_ ?_
                  · (go_simp; first | done | with_reducible rfl | rfl | omega | assumption | (simp; omega))
                  (try simp only [Act.put, aP, aZ, aS])
                  refine pl_done ?_
                  refine hK15.out _ _ ?_
                  (try clear hK15 K15)
                  refine wp_cond_true rfl ?_
                  refine wp_skip ?_
                  refine hK14.out _ _ ?_
                  (try clear hK14 K14)
                  refine wk_seq (fun K16 hK16 => ?_)
                  refine wp_block ?_
                  refine wk_seq (fun K17 hK17 => ?_)
                  refine wk_reg ?_
                  refine pl_take (v := ?_) rfl ?_ ?_
                  rotate_left
                  · (go_simp; first | done | with_reducible rfl | rfl | omega | assumption | (simp; omega))
                  (try simp only [Act.put, aP, aZ, aS])
                  refine pl_eff rfl (fun Kp hKp => ?_)
                  go_simp
                  (refine (cv _ _ _ _ ((by assumption : Sat w0 _ _).pick (.cons (by (repeat (first | with_reducible exact Out.here _ | apply Out.there))) (.cons (by (repeat (first | with_reducible exact Out.here _ | apply Out.there))) (.tail _))))).mono ?_; rintro e64 w64 ⟨A64, c64, rfl, hs64⟩)
                  (try go_wp2_with fail)
                  refine hKp.out _ _ ?_
                  clear hKp Kp
                  (try simp only [Act.put, aP, aZ, aS])
                  refine pl_eff rfl (fun Kp hKp => ?_)
                  go_simp
                  (refine (cg _ _ _ _ (by assumption) (by (repeat (first | with_reducible assumption | with_reducible exact Rd.own | with_reducible exact Rd.nil | with_reducible apply Rd.cons)))).mono ?_; rintro e65 w65 ⟨A65, c65, rfl, hs65⟩)
                  (try go_wp2_with fail)
                  refine hKp.out _ _ ?_
                  clear hKp Kp
                  (try simp only [Act.put, aP, aZ, aS])
                  iterate 3 (refine pl_take (v := ?_) rfl ?_ ?_; rotate_left; (· (go_simp; first | done | with_reducible rfl | rfl | omega | assumption | (simp; omega))); (try simp only [Act.put, aP, aZ, aS]))
                  refine pl_eff rfl (fun Kp hKp => ?_)
                  ((with_reducible apply st_alloc); assumption; intro b11 w11 hs11; simp only [Value.cells] at hs11)
                  refine hKp.out _ _ ?_
                  clear hKp Kp
                  (try simp only [Act.put, aP, aZ, aS])
                  refine pl_eff rfl (fun Kp hKp => ?_)
                  (first | ((with_reducible apply st_storeAll); assumption; rfl; (go_simp; rfl); (repeat (first | with_reducible exact Out.here _ | apply Out.there)); rfl; (focus (first | (simp [Value.oneCell']; done) | (simp [Value.cells, Value.oneCell']; done))); rfl; intro wr14_7 hsr14_7; simp only [Value.cells] at hsr14_7) | ((with_reducible apply st_store); assumption; rfl; (go_simp; rfl); (repeat (first | with_reducible exact Out.here _ | apply Out.there)); rfl; (first | (focus (simp [Value.oneCell']; done)) | (simp [Value.cells, Value.oneCell'])); (first | (focus (simp; done)) | (simp [Value.cells])); intro wr14_7 hsr14_7; simp only [upd, Value.cells] at hsr14_7))
                  refine hKp.out _ _ ?_
                  clear hKp Kp
                  (try dsimp only [Act.put])
                  refine pl_take (v := ?_) rfl ?_ ?_
                  rotate_left
                  · (go_simp; first | done | with_reducible rfl | rfl | omega | assumption | (simp; omega))
                  (try simp only [Act.put, aP, aZ, aS])
                  refine pl_done ?_
                  refine hK17.out _ _ ?_
                  (try clear hK17 K17)
                  refine wk_seq (fun K18 hK18 => ?_)
                  refine wk_reg ?_
                  refine pl_take (v := ?_) rfl ?_ ?_
                  rotate_left
                  · (go_simp; first | done | with_reducible rfl | rfl | omega | assumption | (simp; omega))
                  (try simp only [Act.put, aP, aZ, aS])
                  refine pl_take (v := .bool true) rfl ?_ ?_
                  · (go_simp; first | done | with_reducible rfl | rfl | omega | assumption | (simp; omega))
                  (try simp only [Act.put, aP, aZ, aS])
                  refine pl_take (v := ?_) (by kernel_rfl) ?_ ?_
                  rotate_left
                  · (go_simp; first | done | with_reducible rfl | rfl | omega | assumption | (simp; omega))
                  (try simp only [Act.put, aP, aZ, aS])
                  refine pl_take (v := .bool false) (by kernel_rfl) ?_ ?_
                  · (go_simp; first | done | with_reducible rfl | rfl | omega | assumption | (simp; omega))
                  (try simp only [Act.put, aP, aZ, aS])
                  iterate 2 (refine pl_take (v := .bool false) rfl ?_ ?_; (· (go_simp; first | done | with_reducible rfl | rfl | omega | assumption | (simp; omega))); (try simp only [Act.put, aP, aZ, aS]))
                  refine pl_done ?_
                  refine hK18.out _ _ ?_
                  (try clear hK18 K18)
                  refine wk_reg ?_
                  iterate 3 (refine pl_take (v := ?_) rfl ?_ ?_; rotate_left; (· (first | ((with_reducible apply yl_load); assumption; rfl; (repeat (first | with_reducible assumption | ((with_reducible apply Cl.own); exact rfl) | ((with_reducible apply Cl.blkL); exact rfl) | with_reducible apply Cl.cons)); rfl) | (first | ((with_reducible apply yl_loadAgg); assumption; rfl; (repeat (first | with_reducible exact Out.here _ | apply Out.there)); (simp); rfl; rfl) | ((with_reducible apply yl_loadAggR); assumption; rfl; (repeat (first | with_reducible assumption | with_reducible exact Rd.own | with_reducible exact Rd.nil | with_reducible apply Rd.cons)); rfl)) | (go_simp; first | done | with_reducible rfl | rfl | omega | assumption | (simp; omega)))); (try simp only [Act.put, aP, aZ, aS]))
                  refine pl_eff rfl (fun Kp hKp => ?_)
                  ((with_reducible apply st_buildOne (sz := 4)); assumption; (go_simp; rfl); rfl; omega; omega; intro b76 w76 hs76; simp only [Value.cells] at hs76)
                  refine hKp.out _ _ ?_
                  clear hKp Kp
                  (try simp only [Act.put, aP, aZ, aS])
                  refine pl_eff rfl (fun Kp hKp => ?_)
                  ((with_reducible apply st_append); go_must (assumption; rfl; rfl; (repeat (first | with_reducible exact Out.here _ | apply Out.there)); (repeat (first | with_reducible assumption | with_reducible exact Rd.own | with_reducible exact Rd.nil | with_reducible apply Rd.cons)); (first | exact B8_one _ | exact I8_one _ | (simp [Value.oneCell'])); (first | omega | (simp only [maxLen]; omega)); omega; intro A77 c77 w77 hs77 hc77; (try ((refine hs77.own_elim ?_ ?_); omega; rintro g77 rfl)); try simp only [Nat.zero_add, List.nil_append] at hs77 hc77))
                  refine hKp.out _ _ ?_
                  clear hKp Kp
                  (try simp only [Act.put, aP, aZ, aS])
                  refine pl_take (v := ?_) rfl ?_ ?_
                  rotate_left
                  · (go_simp; first | done | with_reducible rfl | rfl | omega | assumption | (simp; omega))
                  (try simp only [Act.put, aP, aZ, aS])
                  refine pl_eff rfl (fun Kp hKp => ?_)
                  (first | ((with_reducible apply st_store1); assumption; rfl; (go_simp; rfl); (repeat (first | with_reducible exact Out.here _ | apply Out.there)); rfl; rfl; simp; intro wr16_6 hsr16_6; (try simp only [aP] at hsr16_6); (try simp only [aS] at hsr16_6); (try simp only [aZ] at hsr16_6)) | ((with_reducible apply st_store_own); assumption; rfl; (go_simp; rfl); (repeat (first | with_reducible exact Out.here _ | apply Out.there)); rfl; rfl; omega; intro wr16_6 hsr16_6))
                  refine hKp.out _ _ ?_
                  clear hKp Kp
                  (try dsimp only [Act.put])
                  refine pl_done ?_
                  refine hK16.out _ _ ?_
                  (try clear hK16 K16)
                  refine wk_reg ?_
                  iterate 3 (refine pl_take (v := ?_) rfl ?_ ?_; rotate_left; (· (go_simp; first | done | with_reducible rfl | rfl | omega | assumption | (simp; omega))); (try simp only [Act.put, aP, aZ, aS]))
                  refine pl_done ?_
                  dsimp only [Exit.then]
                  go_roundw
                  case rel => (refine ⟨k + 1, some ⟨g77, 0, none⟩, c77, ys ++ [(⟨t, i, p, d⟩, A65, c65)], ev, rv, false, rfl, by go_num, by omega, by omega, by simp [hyl], by omega, by unfold Hid; exact ⟨_, Hk2.out.1, (by rw [List.map_append, List.map_append, Hk2.out.2]; rfl), (by rw [List.all_append, ← Bool.and_assoc, ← hokz.out]; simp [g1])⟩, Hid.mk' (HinE.out A65 c65), ?_⟩; rw [entsCells_snoc, entsData_snoc]; refine Sat.dv_snoc2 (E := 5) (c := c65) ?_; exact (by assumption : Sat w0 _ _).pick (by simp only [entCells]; (repeat (first | exact Pick.nil _ | exact Pick.tail _ | exact Out.here _ | apply Out.there | apply Pick.cons | apply Pick.drop))))
                  case measure => simp [intOf]; omega
              | false =>
                refine wk_seq (fun K14 hK14 => ?_)
                refine wk_seq (fun K15 hK15 => ?_)
                refine wk_reg ?_
                iterate 2 (refine pl_take (v := ?_) rfl ?_ ?_; rotate_left; (· (go_simp; first | done | with_reducible rfl | rfl | omega | assumption | (simp; omega))); (try simp only [Act.put, aP, aZ, aS]))
                iterate 2 (refine pl_take (v := .bool true) rfl ?_ ?_; (· (go_simp; first | done | with_reducible rfl | rfl | omega | assumption | (simp; omega))); (try simp only [Act.put, aP, aZ, aS]))
                refine pl_take (v := ?_) (by kernel_rfl) ?_ ?_
                rotate_left
                · (go_simp; first | done | with_reducible rfl | rfl | omega | assumption | (simp; omega))
                (try simp only [Act.put, aP, aZ, aS])
                refine pl_take (v := .bool true) (by kernel_rfl) ?_ ?_
                · (go_simp; first | done | with_reducible rfl | rfl | omega | assumption | (simp; omega))
                (try simp only [Act.put, aP, aZ, aS])
                refine pl_take (v := .bool true) rfl ?_ ?_
                · (go_simp; first | done | with_reducible rfl | rfl | omega | assumption | (simp; omega))
                (try simp only [Act.put, aP, aZ, aS])
                refine pl_done ?_
                refine hK15.out _ _ ?_
                (try clear hK15 K15)
                refine wp_cond_true rfl ?_
                refine wp_skip ?_
                refine hK14.out _ _ ?_
                (try clear hK14 K14)
                refine wk_seq (fun K16 hK16 => ?_)
                refine wp_block ?_
                refine wk_seq (fun K17 hK17 => ?_)
                refine wk_reg ?_
                refine pl_take (v := ?_) rfl ?_ ?_
                rotate_left
                · (go_simp; first | done | with_reducible rfl | rfl | omega | assumption | (simp; omega))
                (try simp only [Act.put, aP, aZ, aS])
                refine pl_eff rfl (fun Kp hKp => ?_)
                go_simp
                (refine (cv _ _ _ _ ((by assumption : Sat w0 _ _).pick (.cons (by (repeat (first | with_reducible exact Out.here _ | apply Out.there))) (.cons (by (repeat (first | with_reducible exact Out.here _ | apply Out.there))) (.tail _))))).mono ?_; rintro e64 w64 ⟨A64, c64, rfl, hs64⟩)
                (try go_wp2_with fail)
                refine hKp.out _ _ ?_
                clear hKp Kp
                (try simp only [Act.put, aP, aZ, aS])
                refine pl_eff rfl (fun Kp hKp => ?_)
                go_simp
                (refine (cg _ _ _ _ (by assumption) (by (repeat (first | with_reducible assumption | with_reducible exact Rd.own | with_reducible exact Rd.nil | with_reducible apply Rd.cons)))).mono ?_; rintro e65 w65 ⟨A65, c65, rfl, hs65⟩)
                (try go_wp2_with fail)
                refine hKp.out _ _ ?_
                clear hKp Kp
                (try simp only [Act.put, aP, aZ, aS])
                iterate 3 (refine pl_take (v := ?_) rfl ?_ ?_; rotate_left; (· (go_simp; first | done | with_reducible rfl | rfl | omega | assumption | (simp; omega))); (try simp only [Act.put, aP, aZ, aS]))
                refine pl_eff rfl (fun Kp hKp => ?_)
                ((with_reducible apply st_alloc); assumption; intro b11 w11 hs11; simp only [Value.cells] at hs11)
                refine hKp.out _ _ ?_
                clear hKp Kp
                (try simp only [Act.put, aP, aZ, aS])
                refine pl_eff rfl (fun Kp hKp => ?_)
                (first | ((with_reducible apply st_storeAll); assumption; rfl; (go_simp; rfl); (repeat (first | with_reducible exact Out.here _ | apply Out.there)); rfl; (focus (first | (simp [Value.oneCell']; done) | (simp [Value.cells, Value.oneCell']; done))); rfl; intro wr14_7 hsr14_7; simp only [Value.cells] at hsr14_7) | ((with_reducible apply st_store); assumption; rfl; (go_simp; rfl); (repeat (first | with_reducible exact Out.here _ | apply Out.there)); rfl; (first | (focus (simp [Value.oneCell']; done)) | (simp [Value.cells, Value.oneCell'])); (first | (focus (simp; done)) | (simp [Value.cells])); intro wr14_7 hsr14_7; simp only [upd, Value.cells] at hsr14_7))
                refine hKp.out _ _ ?_
                clear hKp Kp
                (try dsimp only [Act.put])
                refine pl_take (v := ?_) rfl ?_ ?_
                rotate_left
                · (go_simp; first | done | with_reducible rfl | rfl | omega | assumption | (simp; omega))
                (try simp only [Act.put, aP, aZ, aS])
                refine pl_done ?_
                refine hK17.out _ _ ?_
                (try clear hK17 K17)
                refine wk_seq (fun K18 hK18 => ?_)
                refine wk_reg ?_
                refine pl_take (v := ?_) rfl ?_ ?_
                rotate_left
                · (go_simp; first | done | with_reducible rfl | rfl | omega | assumption | (simp; omega))
                (try simp only [Act.put, aP, aZ, aS])
                refine pl_take (v := .bool false) rfl ?_ ?_
                · (go_simp; first | done | with_reducible rfl | rfl | omega | assumption | (simp; omega))
                (try simp only [Act.put, aP, aZ, aS])
                iterate 2 (refine pl_skip (by kernel_rfl) ?_; (try simp only [Act.put, aP, aZ, aS]))
                iterate 2 (refine pl_take (v := .bool false) rfl ?_ ?_; (· (go_simp; first | done | with_reducible rfl | rfl | omega | assumption | (simp; omega))); (try simp only [Act.put, aP, aZ, aS]))
                refine pl_done ?_
                refine hK18.out _ _ ?_
                (try clear hK18 K18)
                refine wk_reg ?_
                iterate 3 (refine pl_take (v := ?_) rfl ?_ ?_; rotate_left; (· (first | ((with_reducible apply yl_load); assumption; rfl; (repeat (first | with_reducible assumption | ((with_reducible apply Cl.own); exact rfl) | ((with_reducible apply Cl.blkL); exact rfl) | with_reducible apply Cl.cons)); rfl) | (first | ((with_reducible apply yl_loadAgg); assumption; rfl; (repeat (first | with_reducible exact Out.here _ | apply Out.there)); (simp); rfl; rfl) | ((with_reducible apply yl_loadAggR); assumption; rfl; (repeat (first | with_reducible assumption | with_reducible exact Rd.own | with_reducible exact Rd.nil | with_reducible apply Rd.cons)); rfl)) | (go_simp; first | done | with_reducible rfl | rfl | omega | assumption | (simp; omega)))); (try simp only [Act.put, aP, aZ, aS]))
                refine pl_eff rfl (fun Kp hKp => ?_)
                ((with_reducible apply st_buildOne (sz := 4)); assumption; (go_simp; rfl); rfl; omega; omega; intro b76 w76 hs76; simp only [Value.cells] at hs76)
                refine hKp.out _ _ ?_
                clear hKp Kp
                (try simp only [Act.put, aP, aZ, aS])
                refine pl_eff rfl (fun Kp hKp => ?_)
                ((with_reducible apply st_append); go_must (assumption; rfl; rfl; (repeat (first | with_reducible exact Out.here _ | apply Out.there)); (repeat (first | with_reducible assumption | with_reducible exact Rd.own | with_reducible exact Rd.nil | with_reducible apply Rd.cons)); (first | exact B8_one _ | exact I8_one _ | (simp [Value.oneCell'])); (first | omega | (simp only [maxLen]; omega)); omega; intro A77 c77 w77 hs77 hc77; (try ((refine hs77.own_elim ?_ ?_); omega; rintro g77 rfl)); try simp only [Nat.zero_add, List.nil_append] at hs77 hc77))
                refine hKp.out _ _ ?_
                clear hKp Kp
                (try simp only [Act.put, aP, aZ, aS])
                refine pl_take (v := ?_) rfl ?_ ?_
                rotate_left
                · (go_simp; first | done | with_reducible rfl | rfl | omega | assumption | (simp; omega))
                (try simp only [Act.put, aP, aZ, aS])
                refine pl_eff rfl (fun Kp hKp => ?_)
                (first | ((with_reducible apply st_store1); assumption; rfl; (go_simp; rfl); (repeat (first | with_reducible exact Out.here _ | apply Out.there)); rfl; rfl; simp; intro wr16_6 hsr16_6; (try simp only [aP] at hsr16_6); (try simp only [aS] at hsr16_6); (try simp only [aZ] at hsr16_6)) | ((with_reducible apply st_store_own); assumption; rfl; (go_simp; rfl); (repeat (first | with_reducible exact Out.here _ | apply Out.there)); rfl; rfl; omega; intro wr16_6 hsr16_6))
                refine hKp.out _ _ ?_
                clear hKp Kp
                (try dsimp only [Act.put])
                refine pl_done ?_
                refine hK16.out _ _ ?_
                (try clear hK16 K16)
                refine wk_reg ?_
                iterate 3 (refine pl_take (v := ?_) rfl ?_ ?_; rotate_left; (· (go_simp; first | done | with_reducible rfl | rfl | omega | assumption | (simp; omega))); (try simp only [Act.put, aP, aZ, aS]))
                refine pl_done ?_
                dsimp only [Exit.then]
                go_roundw
                case rel => (refine ⟨k + 1, some ⟨g77, 0, none⟩, c77, ys ++ [(⟨t, i, p, d⟩, A65, c65)], ev, rv, false, rfl, by go_num, by omega, by omega, by simp [hyl], by omega, by unfold Hid; exact ⟨_, Hk2.out.1, (by rw [List.map_append, List.map_append, Hk2.out.2]; rfl), (by rw [List.all_append, ← Bool.and_assoc, ← hokz.out]; simp [])⟩, Hid.mk' (HinE.out A65 c65), ?_⟩; rw [entsCells_snoc, entsData_snoc]; refine Sat.dv_snoc2 (E := 5) (c := c65) ?_; exact (by assumption : Sat w0 _ _).pick (by simp only [entCells]; (repeat (first | exact Pick.nil _ | exact Pick.tail _ | exact Out.here _ | apply Out.there | apply Pick.cons | apply Pick.drop))))
                case measure => simp [intOf]; omega
            · obtain rfl : k = 9 := by omega
              have HX4 : Hid (rdMsg b = (⟨3, n2, n3, n4, n5, n6, n7, n8, yes, ys.map (·.1), [], []⟩, ok, ek, rk)) := by
                obtain ⟨zs, hz1, hz2, hz3⟩ := Hk.out
                unfold Hid; rw [Hfin.out zs ek rk (by rw [Nat.min_eq_right (by omega)]; exact hz1), hz2, hz3]
              have i1 : ((9 : Nat) : Int) < (N : Int) := by omega
              have h98 : ¬ ((9 : Nat) : Int) ≤ 8 := by omega
              refine wk_seq (fun K14 hK14 => ?_)
              refine wk_seq (fun K15 hK15 => ?_)
              refine wk_reg ?_
              iterate 2 (refine pl_take (v := ?_) rfl ?_ ?_; rotate_left; (· (go_simp; first | done | with_reducible rfl | rfl | omega | assumption | (simp; omega))); (try simp only [Act.put, aP, aZ, aS]))
              iterate 2 (refine pl_take (v := .bool true) rfl ?_ ?_; (· (go_simp; first | done | with_reducible rfl | rfl | omega | assumption | (simp; omega))); (try simp only [Act.put, aP, aZ, aS]))
              refine pl_take (v := ?_) (by kernel_rfl) ?_ ?_
              rotate_left
              · (go_simp; first | done | with_reducible rfl | rfl | omega | assumption | (simp; omega))
              (try simp only [Act.put, aP, aZ, aS])
              refine pl_take (v := .bool false) (by kernel_rfl) ?_ ?_
              · (go_simp; first | done | with_reducible rfl | rfl | omega | assumption | (simp; omega))
              (try simp only [Act.put, aP, aZ, aS])
              refine pl_take (v := .bool false) rfl ?_ ?_
              · (go_simp; first | done | with_reducible rfl | rfl | omega | assumption | (simp; omega))
              (try simp only [Act.put, aP, aZ, aS])
              refine pl_done ?_
              refine hK15.out _ _ ?_
              (try clear hK15 K15)
              refine wp_cond_false rfl ?_
              refine wp_exit ?_
              refine (by assumption : ∀ a' w', Met _ a' w' → _) _ _ ?_
              go_meet
              case rel => exact ⟨ok, ys.map (·.1), ys, A4, c4, ek, rk, rfl, rfl, by rw [List.length_map]; omega, hrl, Hin, Hid.mk' (fun _ => HX4.out), Hid.mk' (fun h => by omega), (by assumption : Sat w0 _ _).pick (by simp only [List.length_map, hyl]; (repeat (first | exact Pick.nil _ | exact Pick.tail _ | exact Out.here _ | apply Out.there | apply Pick.cons | apply Pick.drop)))⟩
          · obtain rfl : k = N := by omega
            have HX4 : Hid (rdMsg b = (⟨3, n2, n3, n4, n5, n6, n7, n8, yes, ys.map (·.1), [], []⟩, ok, ek, rk)) := by
              obtain ⟨zs, hz1, hz2, hz3⟩ := Hk.out
              unfold Hid; rw [Hfin.out zs ek rk (by rw [Nat.min_eq_left (by omega)]; exact hz1), hz2, hz3]
            have i1 : ¬ (k : Int) < (k : Int) := by omega
            refine wk_seq (fun K14 hK14 => ?_)
            refine wk_seq (fun K15 hK15 => ?_)
            refine wk_reg ?_
            iterate 2 (refine pl_take (v := ?_) rfl ?_ ?_; rotate_left; (· (go_simp; first | done | with_reducible rfl | rfl | omega | assumption | (simp; omega))); (try simp only [Act.put, aP, aZ, aS]))
            iterate 2 (refine pl_take (v := .bool false) rfl ?_ ?_; (· (go_simp; first | done | with_reducible rfl | rfl | omega | assumption | (simp; omega))); (try simp only [Act.put, aP, aZ, aS]))
            iterate 2 (refine pl_skip (by kernel_rfl) ?_; (try simp only [Act.put, aP, aZ, aS]))
            refine pl_take (v := .bool false) rfl ?_ ?_
            · (go_simp; first | done | with_reducible rfl | rfl | omega | assumption | (simp; omega))
            (try simp only [Act.put, aP, aZ, aS])
            refine pl_done ?_
            refine hK15.out _ _ ?_
            (try clear hK15 K15)
            refine wp_cond_false rfl ?_
            refine wp_exit ?_
            refine (by assumption : ∀ a' w', Met _ a' w' → _) _ _ ?_
            go_meet
            case rel => exact ⟨ok, ys.map (·.1), ys, A4, c4, ek, rk, rfl, rfl, by rw [List.length_map]; omega, hrl, Hin, Hid.mk' (fun _ => HX4.out), Hid.mk' (fun h => by omega), (by assumption : Sat w0 _ _).pick (by simp only [List.length_map, hyl]; (repeat (first | exact Pick.nil _ | exact Pick.tail _ | exact Out.here _ | apply Out.there | apply Pick.cons | apply Pick.drop)))⟩
      · have k3' : (n1 == 3) = false := by simp [k3]
        have HX4 : Hid (n1 ≠ 5 → rdMsg b = (⟨n1, n2, n3, n4, n5, n6, n7, n8, yes, [], [], []⟩, ok1, e9, r9)) := Hid.mk' (fun h => by rw [rdMsg_else HM.out k3 h, hyes, hok1])
        refine wk_seq (fun K11 hK11 => ?_)
        refine wk_reg ?_
        iterate 2 (refine pl_take (v := ?_) rfl ?_ ?_; rotate_left; (· (first | ((with_reducible apply yl_load); assumption; rfl; (repeat (first | with_reducible assumption | ((with_reducible apply Cl.own); exact rfl) | ((with_reducible apply Cl.blkL); exact rfl) | with_reducible apply Cl.cons)); rfl) | (go_simp; first | done | with_reducible rfl | rfl | omega | assumption | (simp; omega)))); (try simp only [Act.put, aP, aZ, aS]))
        refine pl_take (v := .bool false) rfl ?_ ?_
        · (go_simp; first | done | with_reducible rfl | rfl | omega | assumption | (simp; omega))
        (try simp only [Act.put, aP, aZ, aS])
        refine pl_done ?_
        refine hK11.out _ _ ?_
        (try clear hK11 K11)
        refine wp_cond_false rfl ?_
        refine wp_skip ?_
        refine (by assumption : ∀ a' w', Met _ a' w' → _) _ _ ?_
        go_meet
        case rel => exact ⟨ok1, [], [], none, 0, e9, r9, rfl, rfl, by simp, l10, Hid.mk' (fun x hx => by cases hx), HX4, Hid.mk' (fun _ => ⟨rfl, rfl, rfl, rfl⟩), (((by assumption : Sat w0 _ _).own_nil 41 4).dv_nil).pick (by (repeat (first | exact Pick.nil _ | exact Pick.tail _ | exact Out.here _ | apply Out.there | apply Pick.cons | apply Pick.drop)))⟩
    case rest =>
      obtain ⟨ok, es, ys, A9, ca9, ef, rf, rfl, hys, hel, hrl, Hin, Hn5, H5, hsA⟩ := hcut
      refine hK10.out _ _ ?_
      clear hK10 K10
      refine wk_seq (fun K19 hK19 => ?_)
      -- at a cut
      go_cut [8] from 79 to 97 (fun s8 w => ∃ (ok : Bool) (es : List Ent) (sv : List Int) (dt : List UInt8) (ys : List (Ent × Option Addr × Nat)) (A9 B9 C9 : Option Addr) (ca9 cb9 cc9 : Nat) (ef : Int) (rf : List UInt8), s8 = .bool ok ∧ ys.map (·.1) = es ∧ es.length ≤ 9 ∧ sv.length ≤ 7 ∧ dt.length ≤ 1048576 ∧ Hid (∀ x ∈ es, x.d.length ≤ 1048576 ∧ In64 x.t ∧ In64 x.i ∧ In64 x.k) ∧ Hid (rdMsg b = (⟨n1, n2, n3, n4, n5, n6, n7, n8, yes, es, sv, dt⟩, ok, ef, rf)) ∧ Sat w0 w (own 41 4 A9 ca9 es.length (entsCells ys) :: DV (entsData ys) :: own 3 1 B9 cb9 sv.length (I8 sv) :: own 5 1 C9 cc9 dt.length (B8 dt) :: blk b7 (.cells #[.int .i64 n1, .int .i64 n2, .int .i64 n3, .int .i64 n4, .int .i64 n5, .int .i64 n6, .int .i64 n7, .int .i64 n8, .bool yes, .slice A9 es.length ca9, .slice B9 sv.length cb9, .slice C9 dt.length cc9] 26 (0, 0)) :: RR br q ef rf :: br :: blk b2 (.cells #[.int .i64 0, .int .i64 0, .int .i64 0, .int .i64 0, .int .i64 0, .int .i64 0, .int .i64 0, .int .i64 0, .bool false, .slice none 0 0, .slice none 0 0, .slice none 0 0] 26 (0, 0)) :: L))
      case first =>
        by_cases k5 : n1 = 5
        · have k5' : (n1 == 5) = true := by simp [k5]
          have k3 : ¬ n1 = 3 := by omega
          obtain ⟨rfl, rfl, rfl, rfl⟩ := H5.out k5
          obtain ⟨⟨s, es, rs⟩, xs⟩ : ∃ x, rdBytes ef rf = x := ⟨_, rfl⟩
          obtain ⟨⟨d, ed, rd⟩, xd⟩ : ∃ x, rdBytes es rs = x := ⟨_, rfl⟩
          have hsl := getServers_len s
          obtain ⟨⟨sv, g⟩, xg⟩ : ∃ x, getServers s = x := ⟨_, rfl⟩
          rw [xg] at hsl
          simp only at hsl
          obtain ⟨ls1, ls2⟩ := rdBytes_len xs
          obtain ⟨ld1, ld2⟩ := rdBytes_len xd
          have cs := fun (w : World) (L : List HP) (buf : HP) (p : Nat) (hs : Sat w0 w (RR buf p ef rf :: buf :: L)) => refBytesR ef rf hs
          have cd := fun (w : World) (L : List HP) (buf : HP) (p : Nat) (hs : Sat w0 w (RR buf p es rs :: buf :: L)) => refBytesR es rs hs
          have cg := fun (w : World) (L : List HP) (A : Option Addr) (c : Nat) (hs : Sat w0 w L) (hR : Rd w0 L A s.length 1 (B8 s)) => refGetServers_spec (c := c) s (by omega) hs hR
          rw [xs] at cs; rw [xd] at cd; rw [xg] at cg
          have HX5 : Hid (rdMsg b = (⟨n1, n2, n3, n4, n5, n6, n7, n8, yes, [], sv, d⟩, ok && (g == 0), ed, rd)) := by
            unfold Hid; rw [rdMsg_five HM.out k3 k5 xs xd xg, hyes, hok1]
          clear xs xd xg k5 hok1
          cases ok with
          | true =>
            by_cases g0 : g = 0
            · subst g0
              have HX4 : Hid (rdMsg b = (⟨n1, n2, n3, n4, n5, n6, n7, n8, yes, [], sv, d⟩, true, ed, rd)) := by unfold Hid; rw [HX5.out]; rfl
              refine wk_seq (fun K20 hK20 => ?_)
              refine wk_reg ?_
              iterate 2 (refine pl_take (v := ?_) rfl ?_ ?_; rotate_left; (· (first | ((with_reducible apply yl_load); assumption; rfl; (repeat (first | with_reducible assumption | ((with_reducible apply Cl.own); exact rfl) | ((with_reducible apply Cl.blkL); exact rfl) | with_reducible apply Cl.cons)); rfl) | (go_simp; first | done | with_reducible rfl | rfl | omega | assumption | (simp; omega)))); (try simp only [Act.put, aP, aZ, aS]))
              refine pl_take (v := .bool true) rfl ?_ ?_
              · (go_simp; first | done | with_reducible rfl | rfl | omega | assumption | (simp; omega))
              (try simp only [Act.put, aP, aZ, aS])
              refine pl_done ?_
              refine hK20.out _ _ ?_
              (try clear hK20 K20)
              refine wp_cond_true rfl ?_
              refine wk_seq (fun K21 hK21 => ?_)
              refine wk_reg ?_
              refine pl_take (v := ?_) rfl ?_ ?_
              rotate_left
              · (go_simp; first | done | with_reducible rfl | rfl | omega | assumption | (simp; omega))
              (try simp only [Act.put, aP, aZ, aS])
              refine pl_eff rfl (fun Kp hKp => ?_)
              go_simp
              (refine (cs _ _ _ _ ((by assumption : Sat w0 _ _).pick (.cons (by (repeat (first | with_reducible exact Out.here _ | apply Out.there))) (.cons (by (repeat (first | with_reducible exact Out.here _ | apply Out.there))) (.tail _))))).mono ?_; rintro e84 w84 ⟨A84, c84, rfl, hs84⟩)
              (try go_wp2_with fail)
              refine hKp.out _ _ ?_
              clear hKp Kp
              (try simp only [Act.put, aP, aZ, aS])
              refine pl_eff rfl (fun Kp hKp => ?_)
              go_simp
              (refine (cg _ _ _ _ (by assumption) (by (repeat (first | with_reducible assumption | with_reducible exact Rd.own | with_reducible exact Rd.nil | with_reducible apply Rd.cons)))).mono ?_; rintro e85 w85 ⟨A85, c85, n85, hn85, rfl, hs85⟩; obtain rfl := hn85.out)
              (try go_wp2_with fail)
              refine hKp.out _ _ ?_
              clear hKp Kp
              (try simp only [Act.put, aP, aZ, aS])
              iterate 5 (refine pl_take (v := ?_) rfl ?_ ?_; rotate_left; (· (go_simp; first | done | with_reducible rfl | rfl | omega | assumption | (simp; omega))); (try simp only [Act.put, aP, aZ, aS]))
              refine pl_done ?_
              refine hK21.out _ _ ?_
              (try clear hK21 K21)
              refine wk_seq (fun K22 hK22 => ?_)
              refine wk_reg ?_
              refine pl_take (v := ?_) rfl ?_ ?_
              rotate_left
              · (go_simp; first | done | with_reducible rfl | rfl | omega | assumption | (simp; omega))
              (try simp only [Act.put, aP, aZ, aS])
              refine pl_take (v := .bool true) rfl ?_ ?_
              · (go_simp; first | done | with_reducible rfl | rfl | omega | assumption | (simp; omega))
              (try simp only [Act.put, aP, aZ, aS])
              refine pl_take (v := ?_) (by kernel_rfl) ?_ ?_
              rotate_left
              · (go_simp; first | done | with_reducible rfl | rfl | omega | assumption | (simp; omega))
              (try simp only [Act.put, aP, aZ, aS])
              refine pl_take (v := .bool true) (by kernel_rfl) ?_ ?_
              · (go_simp; first | done | with_reducible rfl | rfl | omega | assumption | (simp; omega))
              (try simp only [Act.put, aP, aZ, aS])
              iterate 2 (refine pl_take (v := .bool true) rfl ?_ ?_; (· (go_simp; first | done | with_reducible rfl | rfl | omega | assumption | (simp; omega))); (try simp only [Act.put, aP, aZ, aS]))
              refine pl_done ?_
              refine hK22.out _ _ ?_
              (try clear hK22 K22)
              refine wk_seq (fun K23 hK23 => ?_)
              refine wk_reg ?_
              iterate 2 (refine pl_take (v := ?_) rfl ?_ ?_; rotate_left; (· (go_simp; first | done | with_reducible rfl | rfl | omega | assumption | (simp; omega))); (try simp only [Act.put, aP, aZ, aS]))
              refine pl_eff rfl (fun Kp hKp => ?_)
              (first | ((with_reducible apply st_store1); assumption; rfl; (go_simp; rfl); (repeat (first | with_reducible exact Out.here _ | apply Out.there)); rfl; rfl; simp; intro wr20_2 hsr20_2; (try simp only [aP] at hsr20_2); (try simp only [aS] at hsr20_2); (try simp only [aZ] at hsr20_2)) | ((with_reducible apply st_store_own); assumption; rfl; (go_simp; rfl); (repeat (first | with_reducible exact Out.here _ | apply Out.there)); rfl; rfl; omega; intro wr20_2 hsr20_2))
              refine hKp.out _ _ ?_
              clear hKp Kp
              (try dsimp only [Act.put])
              refine pl_done ?_
              refine hK23.out _ _ ?_
              (try clear hK23 K23)
              refine wk_reg ?_
              refine pl_take (v := ?_) rfl ?_ ?_
              rotate_left
              · (go_simp; first | done | with_reducible rfl | rfl | omega | assumption | (simp; omega))
              (try simp only [Act.put, aP, aZ, aS])
              refine pl_eff rfl (fun Kp hKp => ?_)
              go_simp
              (refine (cd _ _ _ _ ((by assumption : Sat w0 _ _).pick (.cons (by (repeat (first | with_reducible exact Out.here _ | apply Out.there))) (.cons (by (repeat (first | with_reducible exact Out.here _ | apply Out.there))) (.tail _))))).mono ?_; rintro e96 w96 ⟨A96, c96, rfl, hs96⟩)
              (try go_wp2_with fail)
              refine hKp.out _ _ ?_
              clear hKp Kp
              (try simp only [Act.put, aP, aZ, aS])
              refine pl_take (v := ?_) rfl ?_ ?_
              rotate_left
              · (go_simp; first | done | with_reducible rfl | rfl | omega | assumption | (simp; omega))
              (try simp only [Act.put, aP, aZ, aS])
              refine pl_eff rfl (fun Kp hKp => ?_)
              (first | ((with_reducible apply st_store1); assumption; rfl; (go_simp; rfl); (repeat (first | with_reducible exact Out.here _ | apply Out.there)); rfl; rfl; simp; intro wr21_3 hsr21_3; (try simp only [aP] at hsr21_3); (try simp only [aS] at hsr21_3); (try simp only [aZ] at hsr21_3)) | ((with_reducible apply st_store_own); assumption; rfl; (go_simp; rfl); (repeat (first | with_reducible exact Out.here _ | apply Out.there)); rfl; rfl; omega; intro wr21_3 hsr21_3))
              refine hKp.out _ _ ?_
              clear hKp Kp
              (try dsimp only [Act.put])
              refine pl_done ?_
              refine (by assumption : ∀ a' w', Met _ a' w' → _) _ _ ?_
              go_meet
              case rel => exact ⟨true, [], sv, d, ys, A9, A85, A96, ca9, c85, c96, ed, rd, rfl, hys, by simp, hsl, by omega, Hin, HX4, (by assumption : Sat w0 _ _).pick (by (repeat (first | exact Pick.nil _ | exact Pick.tail _ | exact Out.here _ | apply Out.there | apply Pick.cons | apply Pick.drop)))⟩
            · have g1 : (g == 0) = false := by simp [g0]
              have HX4 : Hid (rdMsg b = (⟨n1, n2, n3, n4, n5, n6, n7, n8, yes, [], sv, d⟩, false, ed, rd)) := by unfold Hid; rw [HX5.out, g1]; rfl
              clear g0
              refine wk_seq (fun K20 hK20 => ?_)
              refine wk_reg ?_
              iterate 2 (refine pl_take (v := ?_) rfl ?_ ?_; rotate_left; (· (first | ((with_reducible apply yl_load); assumption; rfl; (repeat (first | with_reducible assumption | ((with_reducible apply Cl.own); exact rfl) | ((with_reducible apply Cl.blkL); exact rfl) | with_reducible apply Cl.cons)); rfl) | (go_simp; first | done | with_reducible rfl | rfl | omega | assumption | (simp; omega)))); (try simp only [Act.put, aP, aZ, aS]))
              refine pl_take (v := .bool true) rfl ?_ ?_
              · (go_simp; first | done | with_reducible rfl | rfl | omega | assumption | (simp; omega))
              (try simp only [Act.put, aP, aZ, aS])
              refine pl_done ?_
              refine hK20.out _ _ ?_
              (try clear hK20 K20)
              refine wp_cond_true rfl ?_
              refine wk_seq (fun K21 hK21 => ?_)
              refine wk_reg ?_
              refine pl_take (v := ?_) rfl ?_ ?_
              rotate_left
              · (go_simp; first | done | with_reducible rfl | rfl | omega | assumption | (simp; omega))
              (try simp only [Act.put, aP, aZ, aS])
              refine pl_eff rfl (fun Kp hKp => ?_)
              go_simp
              (refine (cs _ _ _ _ ((by assumption : Sat w0 _ _).pick (.cons (by (repeat (first | with_reducible exact Out.here _ | apply Out.there))) (.cons (by (repeat (first | with_reducible exact Out.here _ | apply Out.there))) (.tail _))))).mono ?_; rintro e84 w84 ⟨A84, c84, rfl, hs84⟩)
              (try go_wp2_with fail)
              refine hKp.out _ _ ?_
              clear hKp Kp
              (try simp only [Act.put, aP, aZ, aS])
              refine pl_eff rfl (fun Kp hKp => ?_)
              go_simp
              (refine (cg _ _ _ _ (by assumption) (by (repeat (first | with_reducible assumption | with_reducible exact Rd.own | with_reducible exact Rd.nil | with_reducible apply Rd.cons)))).mono ?_; rintro e85 w85 ⟨A85, c85, n85, hn85, rfl, hs85⟩; obtain rfl := hn85.out)
              (try go_wp2_with fail)
              refine hKp.out _ _ ?_
              clear hKp Kp
              (try simp only [Act.put, aP, aZ, aS])
              iterate 5 (refine pl_take (v := ?_) rfl ?_ ?_; rotate_left; (· (go_simp; first | done | with_reducible rfl | rfl | omega | assumption | (simp; omega))); (try simp only [Act.put, aP, aZ, aS]))
              refine pl_done ?_
              refine hK21.out _ _ ?_
              (try clear hK21 K21)
              refine wk_seq (fun K22 hK22 => ?_)
              refine wk_reg ?_
              refine pl_take (v := ?_) rfl ?_ ?_
              rotate_left
              · (go_simp; first | done | with_reducible rfl | rfl | omega | assumption | (simp; omega))
              (try simp only [Act.put, aP, aZ, aS])
              refine pl_take (v := .bool true) rfl ?_ ?_
              · (go_simp; first | done | with_reducible rfl | rfl | omega | assumption | (simp; omega))
              (try simp only [Act.put, aP, aZ, aS])
              refine pl_take (v := ?_) (by kernel_rfl) ?_ ?_
              rotate_left
              · (go_simp; first | done | with_reducible rfl | rfl | omega | assumption | (simp; omega))
              (try simp only [Act.put, aP, aZ, aS])
              refine pl_take (v := .bool false) (by kernel_rfl) ?_ ?_
              · (go_simp; first | done | with_reducible rfl | rfl | omega | assumption | (simp; omega))
              (try simp only [Act.put, aP, aZ, aS])
              iterate 2 (refine pl_take (v := .bool false) rfl ?_ ?_; (· (go_simp; first | done | with_reducible rfl | rfl | omega | assumption | (simp; omega))); (try simp only [Act.put, aP, aZ, aS]))
              refine pl_done ?_
              refine hK22.out _ _ ?_
              (try clear hK22 K22)
              refine wk_seq (fun K23 hK23 => ?_)
              refine wk_reg ?_
              iterate 2 (refine pl_take (v := ?_) rfl ?_ ?_; rotate_left; (· (go_simp; first | done | with_reducible rfl | rfl | omega | assumption | (simp; omega))); (try simp only [Act.put, aP, aZ, aS]))
              refine pl_eff rfl (fun Kp hKp => ?_)
              (first | ((with_reducible apply st_store1); assumption; rfl; (go_simp; rfl); (repeat (first | with_reducible exact Out.here _ | apply Out.there)); rfl; rfl; simp; intro wr20_2 hsr20_2; (try simp only [aP] at hsr20_2); (try simp only [aS] at hsr20_2); (try simp only [aZ] at hsr20_2)) | ((with_reducible apply st_store_own); assumption; rfl; (go_simp; rfl); (repeat (first | with_reducible exact Out.here _ | apply Out.there)); rfl; rfl; omega; intro wr20_2 hsr20_2))
              refine hKp.out _ _ ?_
              clear hKp Kp
              (try dsimp only [Act.put])
              refine pl_done ?_
              refine hK23.out _ _ ?_
              (try clear hK23 K23)
              refine wk_reg ?_
              refine pl_take (v := ?_) rfl ?_ ?_
              rotate_left
              · (go_simp; first | done | with_reducible rfl | rfl | omega | assumption | (simp; omega))
              (try simp only [Act.put, aP, aZ, aS])
              refine pl_eff rfl (fun Kp hKp => ?_)
              go_simp
              (refine (cd _ _ _ _ ((by assumption : Sat w0 _ _).pick (.cons (by (repeat (first | with_reducible exact Out.here _ | apply Out.there))) (.cons (by (repeat (first | with_reducible exact Out.here _ | apply Out.there))) (.tail _))))).mono ?_; rintro e96 w96 ⟨A96, c96, rfl, hs96⟩)
              (try go_wp2_with fail)
              refine hKp.out _ _ ?_
              clear hKp Kp
              (try simp only [Act.put, aP, aZ, aS])
              refine pl_take (v := ?_) rfl ?_ ?_
              rotate_left
              · (go_simp; first | done | with_reducible rfl | rfl | omega | assumption | (simp; omega))
              (try simp only [Act.put, aP, aZ, aS])
              refine pl_eff rfl (fun Kp hKp => ?_)
              (first | ((with_reducible apply st_store1); assumption; rfl; (go_simp; rfl); (repeat (first | with_reducible exact Out.here _ | apply Out.there)); rfl; rfl; simp; intro wr21_3 hsr21_3; (try simp only [aP] at hsr21_3); (try simp only [aS] at hsr21_3); (try simp only [aZ] at hsr21_3)) | ((with_reducible apply st_store_own); assumption; rfl; (go_simp; rfl); (repeat (first | with_reducible exact Out.here _ | apply Out.there)); rfl; rfl; omega; intro wr21_3 hsr21_3))
              refine hKp.out _ _ ?_
              clear hKp Kp
              (try dsimp only [Act.put])
              refine pl_done ?_
              refine (by assumption : ∀ a' w', Met _ a' w' → _) _ _ ?_
              go_meet
              case rel => exact ⟨false, [], sv, d, ys, A9, A85, A96, ca9, c85, c96, ed, rd, rfl, hys, by simp, hsl, by omega, Hin, HX4, (by assumption : Sat w0 _ _).pick (by (repeat (first | exact Pick.nil _ | exact Pick.tail _ | exact Out.here _ | apply Out.there | apply Pick.cons | apply Pick.drop)))⟩
          | false =>
            have HX4 : Hid (rdMsg b = (⟨n1, n2, n3, n4, n5, n6, n7, n8, yes, [], sv, d⟩, false, ed, rd)) := by unfold Hid; rw [HX5.out]; rfl
            refine wk_seq (fun K20 hK20 => ?_)
            refine wk_reg ?_
            iterate 2 (refine pl_take (v := ?_) rfl ?_ ?_; rotate_left; (· (first | ((with_reducible apply yl_load); assumption; rfl; (repeat (first | with_reducible assumption | ((with_reducible apply Cl.own); exact rfl) | ((with_reducible apply Cl.blkL); exact rfl) | with_reducible apply Cl.cons)); rfl) | (go_simp; first | done | with_reducible rfl | rfl | omega | assumption | (simp; omega)))); (try simp only [Act.put, aP, aZ, aS]))
            refine pl_take (v := .bool true) rfl ?_ ?_
            · (go_simp; first | done | with_reducible rfl | rfl | omega | assumption | (simp; omega))
            (try simp only [Act.put, aP, aZ, aS])
            refine pl_done ?_
            refine hK20.out _ _ ?_
            (try clear hK20 K20)
            refine wp_cond_true rfl ?_
            refine wk_seq (fun K21 hK21 => ?_)
            refine wk_reg ?_
            refine pl_take (v := ?_) rfl ?_ ?_
            rotate_left
            · (go_simp; first | done | with_reducible rfl | rfl | omega | assumption | (simp; omega))
            (try simp only [Act.put, aP, aZ, aS])
            refine pl_eff rfl (fun Kp hKp => ?_)
            go_simp
            (refine (cs _ _ _ _ ((by assumption : Sat w0 _ _).pick (.cons (by (repeat (first | with_reducible exact Out.here _ | apply Out.there))) (.cons (by (repeat (first | with_reducible exact Out.here _ | apply Out.there))) (.tail _))))).mono ?_; rintro e84 w84 ⟨A84, c84, rfl, hs84⟩)
            (try go_wp2_with fail)
            refine hKp.out _ _ ?_
            clear hKp Kp
            (try simp only [Act.put, aP, aZ, aS])
            refine pl_eff rfl (fun Kp hKp => ?_)
            go_simp
            (refine (cg _ _ _ _ (by assumption) (by (repeat (first | with_reducible assumption | with_reducible exact Rd.own | with_reducible exact Rd.nil | with_reducible apply Rd.cons)))).mono ?_; rintro e85 w85 ⟨A85, c85, n85, hn85, rfl, hs85⟩; obtain rfl := hn85.out)
            (try go_wp2_with fail)
            refine hKp.out _ _ ?_
            clear hKp Kp
            (try simp only [Act.put, aP, aZ, aS])
            iterate 5 (refine pl_take (v := ?_) rfl ?_ ?_; rotate_left; (· (go_simp; first | done | with_reducible rfl | rfl | omega | assumption | (simp; omega))); (try simp only [Act.put, aP, aZ, aS]))
            refine pl_done ?_
            refine hK21.out _ _ ?_
            (try clear hK21 K21)
            refine wk_seq (fun K22 hK22 => ?_)
            refine wk_reg ?_
            refine pl_take (v := ?_) rfl ?_ ?_
            rotate_left
            · (go_simp; first | done | with_reducible rfl | rfl | omega | assumption | (simp; omega))
            (try simp only [Act.put, aP, aZ, aS])
            refine pl_take (v := .bool false) rfl ?_ ?_
            · (go_simp; first | done | with_reducible rfl | rfl | omega | assumption | (simp; omega))
            (try simp only [Act.put, aP, aZ, aS])
            iterate 2 (refine pl_skip (by kernel_rfl) ?_; (try simp only [Act.put, aP, aZ, aS]))
            iterate 2 (refine pl_take (v := .bool false) rfl ?_ ?_; (· (go_simp; first | done | with_reducible rfl | rfl | omega | assumption | (simp; omega))); (try simp only [Act.put, aP, aZ, aS]))
            refine pl_done ?_
            refine hK22.out _ _ ?_
            (try clear hK22 K22)
            refine wk_seq (fun K23 hK23 => ?_)
            refine wk_reg ?_
            iterate 2 (refine pl_take (v := ?_) rfl ?_ ?_; rotate_left; (· (go_simp; first | done | with_reducible rfl | rfl | omega | assumption | (simp; omega))); (try simp only [Act.put, aP, aZ, aS]))
            refine pl_eff rfl (fun Kp hKp => ?_)
            (first | ((with_reducible apply st_store1); assumption; rfl; (go_simp; rfl); (repeat (first | with_reducible exact Out.here _ | apply Out.there)); rfl; rfl; simp; intro wr20_2 hsr20_2; (try simp only [aP] at hsr20_2); (try simp only [aS] at hsr20_2); (try simp only [aZ] at hsr20_2)) | ((with_reducible apply st_store_own); assumption; rfl; (go_simp; rfl); (repeat (first | with_reducible exact Out.here _ | apply Out.there)); rfl; rfl; omega; intro wr20_2 hsr20_2))
            refine hKp.out _ _ ?_
            clear hKp Kp
            (try dsimp only [Act.put])
            refine pl_done ?_
            refine hK23.out _ _ ?_
            (try clear hK23 K23)
            refine wk_reg ?_
            refine pl_take (v := ?_) rfl ?_ ?_
            rotate_left
            · (go_simp; first | done | with_reducible rfl | rfl | omega | assumption | (simp; omega))
            (try simp only [Act.put, aP, aZ, aS])
            refine pl_eff rfl (fun Kp hKp => ?_)
            go_simp
            (refine (cd _ _ _ _ ((by assumption : Sat w0 _ _).pick (.cons (by (repeat (first | with_reducible exact Out.here _ | apply Out.there))) (.cons (by (repeat (first | with_reducible exact Out.here _ | apply Out.there))) (.tail _))))).mono ?_; rintro e96 w96 ⟨A96, c96, rfl, hs96⟩)
            (try go_wp2_with fail)
            refine hKp.out _ _ ?_
            clear hKp Kp
            (try simp only [Act.put, aP, aZ, aS])
            refine pl_take (v := ?_) rfl ?_ ?_
            rotate_left
            · (go_simp; first | done | with_reducible rfl | rfl | omega | assumption | (simp; omega))
            (try simp only [Act.put, aP, aZ, aS])
            refine pl_eff rfl (fun Kp hKp => ?_)
            (first | ((with_reducible apply st_store1); assumption; rfl; (go_simp; rfl); (repeat (first | with_reducible exact Out.here _ | apply Out.there)); rfl; rfl; simp; intro wr21_3 hsr21_3; (try simp only [aP] at hsr21_3); (try simp only [aS] at hsr21_3); (try simp only [aZ] at hsr21_3)) | ((with_reducible apply st_store_own); assumption; rfl; (go_simp; rfl); (repeat (first | with_reducible exact Out.here _ | apply Out.there)); rfl; rfl; omega; intro wr21_3 hsr21_3))
            refine hKp.out _ _ ?_
            clear hKp Kp
            (try dsimp only [Act.put])
            refine pl_done ?_
            refine (by assumption : ∀ a' w', Met _ a' w' → _) _ _ ?_
            go_meet
            case rel => exact ⟨false, [], sv, d, ys, A9, A85, A96, ca9, c85, c96, ed, rd, rfl, hys, by simp, hsl, by omega, Hin, HX4, (by assumption : Sat w0 _ _).pick (by (repeat (first | exact Pick.nil _ | exact Pick.tail _ | exact Out.here _ | apply Out.there | apply Pick.cons | apply Pick.drop)))⟩
        · have k5' : (n1 == 5) = false := by simp [k5]
          have HX4 : Hid (rdMsg b = (⟨n1, n2, n3, n4, n5, n6, n7, n8, yes, es, [], []⟩, ok, ef, rf)) := Hid.mk' (Hn5.out k5)
          clear k5
          refine wk_seq (fun K20 hK20 => ?_)
          refine wk_reg ?_
          iterate 2 (refine pl_take (v := ?_) rfl ?_ ?_; rotate_left; (· (first | ((with_reducible apply yl_load); assumption; rfl; (repeat (first | with_reducible assumption | ((with_reducible apply Cl.own); exact rfl) | ((with_reducible apply Cl.blkL); exact rfl) | with_reducible apply Cl.cons)); rfl) | (go_simp; first | done | with_reducible rfl | rfl | omega | assumption | (simp; omega)))); (try simp only [Act.put, aP, aZ, aS]))
          refine pl_take (v := .bool false) rfl ?_ ?_
          · (go_simp; first | done | with_reducible rfl | rfl | omega | assumption | (simp; omega))
          (try simp only [Act.put, aP, aZ, aS])
          refine pl_done ?_
          refine hK20.out _ _ ?_
          (try clear hK20 K20)
          refine wp_cond_false rfl ?_
          refine wp_skip ?_
          refine (by assumption : ∀ a' w', Met _ a' w' → _) _ _ ?_
          go_meet
          case rel => exact ⟨ok, es, [], [], ys, A9, none, none, ca9, 0, 0, ef, rf, rfl, hys, hel, by simp, by simp, Hin, HX4, (((by assumption : Sat w0 _ _).own_nil 3 1).own_nil 5 1).pick (by (repeat (first | exact Pick.nil _ | exact Pick.tail _ | exact Out.here _ | apply Out.there | apply Pick.cons | apply Pick.drop)))⟩
      case rest =>
        obtain ⟨ok, es, sv, dt, ys, A9, B9, C9, ca9, cb9, cc9, ef, rf, rfl, hys, he, hv, hd, Hin, HX2, hsB⟩ := hcut
        obtain ⟨E, hE⟩ : ∃ E, rdEnd ef rf = E := ⟨_, rfl⟩
        obtain ⟨R, hR2⟩ : ∃ R, rightM ⟨n1, n2, n3, n4, n5, n6, n7, n8, yes, es, sv, dt⟩ = R := ⟨_, rfl⟩
        have hX3 : X = if ok = true ∧ E = 0 ∧ R = true then (⟨n1, n2, n3, n4, n5, n6, n7, n8, yes, es, sv, dt⟩, 0) else (zeroMsg, 21) := by
          rw [← HX.out]; unfold getMsg; rw [HX2.out]; simp only [hE, hR2]
        have cE := fun (w : World) (L : List HP) (buf : HP) (p : Nat) (hs : Sat w0 w (RR buf p ef rf :: L)) => refEnd_spec hs
        rw [hE] at cE
        have hlen : ∀ x ∈ es, x.d.length ≤ 1048576 := fun x hx => (Hin.out x hx).1
        have h64 : ∀ x ∈ es, In64 x.t ∧ In64 x.i ∧ In64 x.k := fun x hx => (Hin.out x hx).2
        have hE2 := ents_slV' (w0 := w0) (L := L) (A := A9) (c := ca9) ys hys h64
        have cR := fun (w : World) (L : List HP) (A B C : Option Addr) (ca cb cc : Nat) (hs : Sat w0 w L) (h1 : SlV EntV 4 (Rd w0 L) [.slice A es.length ca] es) (h2 : Rd w0 L B sv.length 1 (I8 sv)) => refRight_spec (A := A) (B := B) (C := C) (ca := ca) (cb := cb) (cc := cc) n1 n2 n3 n4 n5 n6 n7 n8 yes es sv dt (by omega) (by omega) hd hlen hs h1 h2
        rw [hR2] at cR
        clear hE hR2 hyes hok1 hlen h64
        cases ok with
        | false =>
          obtain rfl : X = (zeroMsg, 21) := by rw [hX3]; simp
          clear hX3
          refine hK19.out _ _ ?_
          clear hK19 K19
          refine wk_seq (fun K24 hK24 => ?_)
          refine wk_seq (fun K25 hK25 => ?_)
          refine wk_reg ?_
          refine pl_take (v := .bool false) rfl ?_ ?_
          · (go_simp; first | done | with_reducible rfl | rfl | omega | assumption | (simp; omega))
          (try simp only [Act.put, aP, aZ, aS])
          iterate 2 (refine pl_take (v := .bool true) rfl ?_ ?_; (· (go_simp; first | done | with_reducible rfl | rfl | omega | assumption | (simp; omega))); (try simp only [Act.put, aP, aZ, aS]))
          iterate 3 (refine pl_skip (by kernel_rfl) ?_; (try simp only [Act.put, aP, aZ, aS]))
          iterate 2 (refine pl_take (v := .bool true) rfl ?_ ?_; (· (go_simp; first | done | with_reducible rfl | rfl | omega | assumption | (simp; omega))); (try simp only [Act.put, aP, aZ, aS]))
          iterate 3 (refine pl_skip (by kernel_rfl) ?_; (try simp only [Act.put, aP, aZ, aS]))
          refine pl_take (v := .bool true) rfl ?_ ?_
          · (go_simp; first | done | with_reducible rfl | rfl | omega | assumption | (simp; omega))
          (try simp only [Act.put, aP, aZ, aS])
          refine pl_done ?_
          refine hK25.out _ _ ?_
          (try clear hK25 K25)
          refine wp_cond_true rfl ?_
          refine wk_seq (fun K26 hK26 => ?_)
          refine wk_reg ?_
          refine pl_take (v := ?_) rfl ?_ ?_
          rotate_left
          · (go_simp; first | done | with_reducible rfl | rfl | omega | assumption | (simp; omega))
          (try simp only [Act.put, aP, aZ, aS])
          refine pl_eff rfl (fun Kp hKp => ?_)
          (first | ((with_reducible apply st_storeAll); assumption; rfl; (go_simp; rfl); (repeat (first | with_reducible exact Out.here _ | apply Out.there)); rfl; (focus (first | (simp [Value.oneCell']; done) | (simp [Value.cells, Value.oneCell']; done))); rfl; intro wr23_1 hsr23_1; simp only [Value.cells] at hsr23_1) | ((with_reducible apply st_store); assumption; rfl; (go_simp; rfl); (repeat (first | with_reducible exact Out.here _ | apply Out.there)); rfl; (first | (focus (simp [Value.oneCell']; done)) | (simp [Value.cells, Value.oneCell'])); (first | (focus (simp; done)) | (simp [Value.cells])); intro wr23_1 hsr23_1; simp only [upd, Value.cells] at hsr23_1))
          refine hKp.out _ _ ?_
          clear hKp Kp
          (try dsimp only [Act.put])
          refine pl_take (v := ?_) rfl ?_ ?_
          rotate_left
          · (go_simp; first | done | with_reducible rfl | rfl | omega | assumption | (simp; omega))
          (try simp only [Act.put, aP, aZ, aS])
          refine pl_done ?_
          refine hK26.out _ _ ?_
          (try clear hK26 K26)
          refine wp_ret ?_
          ((try simp only [Exit.then]); refine retC1T rfl rfl (by assumption) (by (repeat (first | exact Out.here _ | apply Out.there))) (by simp) rfl rfl ?_)
          exact ⟨none, none, none, 0, 0, 0, [], rfl, rfl, (((((by assumption : Sat w0 _ _).own_nil 5 1).own_nil 3 1).dv_nil).own_nil 41 4).pick (by (repeat (first | exact Pick.nil _ | exact Pick.tail _ | exact Out.here _ | apply Out.there | apply Pick.cons | apply Pick.drop)))⟩
        | true =>
          by_cases hE0 : E = 0
          · subst hE0
            cases R with
            | false =>
              obtain rfl : X = (zeroMsg, 21) := by rw [hX3]; simp
              clear hX3
              refine hK19.out _ _ ?_
              clear hK19 K19
              refine wk_seq (fun K24 hK24 => ?_)
              refine wk_seq (fun K25 hK25 => ?_)
              refine wk_reg ?_
              refine pl_take (v := .bool true) rfl ?_ ?_
              · (go_simp; first | done | with_reducible rfl | rfl | omega | assumption | (simp; omega))
              (try simp only [Act.put, aP, aZ, aS])
              iterate 2 (refine pl_take (v := .bool false) rfl ?_ ?_; (· (go_simp; first | done | with_reducible rfl | rfl | omega | assumption | (simp; omega))); (try simp only [Act.put, aP, aZ, aS]))
              refine pl_take (v := ?_) (by kernel_rfl) ?_ ?_
              rotate_left
              · (go_simp; first | done | with_reducible rfl | rfl | omega | assumption | (simp; omega))
              (try simp only [Act.put, aP, aZ, aS])
              refine pl_eff (by kernel_rfl) (fun Kp hKp => ?_)
              go_simp
              (refine (cE _ _ _ _ ((by assumption : Sat w0 _ _).pick (.cons (by (repeat (first | with_reducible exact Out.here _ | apply Out.there))) (.tail _)))).mono ?_; rintro e102 w102 ⟨rfl, hs102⟩)
              (try go_wp2_with fail)
              refine hKp.out _ _ ?_
              clear hKp Kp
              (try simp only [Act.put, aP, aZ, aS])
              refine pl_take (v := .bool false) (by kernel_rfl) ?_ ?_
              · (go_simp; first | done | with_reducible rfl | rfl | omega | assumption | (simp; omega))
              (try simp only [Act.put, aP, aZ, aS])
              iterate 2 (refine pl_take (v := .bool false) rfl ?_ ?_; (· (go_simp; first | done | with_reducible rfl | rfl | omega | assumption | (simp; omega))); (try simp only [Act.put, aP, aZ, aS]))
              refine pl_take (v := ?_) (by kernel_rfl) ?_ ?_
              rotate_left
              · (first | ((with_reducible apply yl_loadAgg); assumption; rfl; (repeat (first | with_reducible exact Out.here _ | apply Out.there)); (simp); rfl; rfl) | ((with_reducible apply yl_loadAggR); assumption; rfl; (repeat (first | with_reducible assumption | with_reducible exact Rd.own | with_reducible exact Rd.nil | with_reducible apply Rd.cons)); rfl))
              (try simp only [Act.put, aP, aZ, aS])
              refine pl_eff (by kernel_rfl) (fun Kp hKp => ?_)
              go_simp
              (refine (cR _ _ _ _ _ _ _ _ (by assumption) ((SlV.mono EntV.mono).pick (by (repeat (first | exact Pick.nil _ | exact Pick.tail _ | exact Out.here _ | apply Out.there | apply Pick.cons | apply Pick.drop))) hE2) (by (repeat (first | with_reducible assumption | with_reducible exact Rd.own | with_reducible exact Rd.nil | with_reducible apply Rd.cons)))).mono ?_; rintro e107 w107 ⟨rfl, hs107⟩)
              (try go_wp2_with fail)
              refine hKp.out _ _ ?_
              clear hKp Kp
              (try simp only [Act.put, aP, aZ, aS])
              refine pl_take (v := .bool true) (by kernel_rfl) ?_ ?_
              · (go_simp; first | done | with_reducible rfl | rfl | omega | assumption | (simp; omega))
              (try simp only [Act.put, aP, aZ, aS])
              refine pl_take (v := .bool true) rfl ?_ ?_
              · (go_simp; first | done | with_reducible rfl | rfl | omega | assumption | (simp; omega))
              (try simp only [Act.put, aP, aZ, aS])
              refine pl_done ?_
              refine hK25.out _ _ ?_
              (try clear hK25 K25)
              refine wp_cond_true rfl ?_
              refine wk_seq (fun K26 hK26 => ?_)
              refine wk_reg ?_
              refine pl_take (v := ?_) rfl ?_ ?_
              rotate_left
              · (go_simp; first | done | with_reducible rfl | rfl | omega | assumption | (simp; omega))
              (try simp only [Act.put, aP, aZ, aS])
              refine pl_eff rfl (fun Kp hKp => ?_)
              (first | ((with_reducible apply st_storeAll); assumption; rfl; (go_simp; rfl); (repeat (first | with_reducible exact Out.here _ | apply Out.there)); rfl; (focus (first | (simp [Value.oneCell']; done) | (simp [Value.cells, Value.oneCell']; done))); rfl; intro wr23_1 hsr23_1; simp only [Value.cells] at hsr23_1) | ((with_reducible apply st_store); assumption; rfl; (go_simp; rfl); (repeat (first | with_reducible exact Out.here _ | apply Out.there)); rfl; (first | (focus (simp [Value.oneCell']; done)) | (simp [Value.cells, Value.oneCell'])); (first | (focus (simp; done)) | (simp [Value.cells])); intro wr23_1 hsr23_1; simp only [upd, Value.cells] at hsr23_1))
              refine hKp.out _ _ ?_
              clear hKp Kp
              (try dsimp only [Act.put])
              refine pl_take (v := ?_) rfl ?_ ?_
              rotate_left
              · (go_simp; first | done | with_reducible rfl | rfl | omega | assumption | (simp; omega))
              (try simp only [Act.put, aP, aZ, aS])
              refine pl_done ?_
              refine hK26.out _ _ ?_
              (try clear hK26 K26)
              refine wp_ret ?_
              ((try simp only [Exit.then]); refine retC1T rfl rfl (by assumption) (by (repeat (first | exact Out.here _ | apply Out.there))) (by simp) rfl rfl ?_)
              exact ⟨none, none, none, 0, 0, 0, [], rfl, rfl, (((((by assumption : Sat w0 _ _).own_nil 5 1).own_nil 3 1).dv_nil).own_nil 41 4).pick (by (repeat (first | exact Pick.nil _ | exact Pick.tail _ | exact Out.here _ | apply Out.there | apply Pick.cons | apply Pick.drop)))⟩
            | true =>
              obtain rfl : X = (⟨n1, n2, n3, n4, n5, n6, n7, n8, yes, es, sv, dt⟩, 0) := by rw [hX3]; simp
              clear hX3
              refine hK19.out _ _ ?_
              clear hK19 K19
              refine wk_seq (fun K24 hK24 => ?_)
              refine wk_seq (fun K25 hK25 => ?_)
              refine wk_reg ?_
              refine pl_take (v := .bool true) rfl ?_ ?_
              · (go_simp; first | done | with_reducible rfl | rfl | omega | assumption | (simp; omega))
              (try simp only [Act.put, aP, aZ, aS])
              iterate 2 (refine pl_take (v := .bool false) rfl ?_ ?_; (· (go_simp; first | done | with_reducible rfl | rfl | omega | assumption | (simp; omega))); (try simp only [Act.put, aP, aZ, aS]))
              refine pl_take (v := ?_) (by kernel_rfl) ?_ ?_
              rotate_left
              · (go_simp; first | done | with_reducible rfl | rfl | omega | assumption | (simp; omega))
              (try simp only [Act.put, aP, aZ, aS])
              refine pl_eff (by kernel_rfl) (fun Kp hKp => ?_)
              go_simp
              (refine (cE _ _ _ _ ((by assumption : Sat w0 _ _).pick (.cons (by (repeat (first | with_reducible exact Out.here _ | apply Out.there))) (.tail _)))).mono ?_; rintro e102 w102 ⟨rfl, hs102⟩)
              (try go_wp2_with fail)
              refine hKp.out _ _ ?_
              clear hKp Kp
              (try simp only [Act.put, aP, aZ, aS])
              refine pl_take (v := .bool false) (by kernel_rfl) ?_ ?_
              · (go_simp; first | done | with_reducible rfl | rfl | omega | assumption | (simp; omega))
              (try simp only [Act.put, aP, aZ, aS])
              iterate 2 (refine pl_take (v := .bool false) rfl ?_ ?_; (· (go_simp; first | done | with_reducible rfl | rfl | omega | assumption | (simp; omega))); (try simp only [Act.put, aP, aZ, aS]))
              refine pl_take (v := ?_) (by kernel_rfl) ?_ ?_
              rotate_left
              · (first | ((with_reducible apply yl_loadAgg); assumption; rfl; (repeat (first | with_reducible exact Out.here _ | apply Out.there)); (simp); rfl; rfl) | ((with_reducible apply yl_loadAggR); assumption; rfl; (repeat (first | with_reducible assumption | with_reducible exact Rd.own | with_reducible exact Rd.nil | with_reducible apply Rd.cons)); rfl))
              (try simp only [Act.put, aP, aZ, aS])
              refine pl_eff (by kernel_rfl) (fun Kp hKp => ?_)
              go_simp
              (refine (cR _ _ _ _ _ _ _ _ (by assumption) ((SlV.mono EntV.mono).pick (by (repeat (first | exact Pick.nil _ | exact Pick.tail _ | exact Out.here _ | apply Out.there | apply Pick.cons | apply Pick.drop))) hE2) (by (repeat (first | with_reducible assumption | with_reducible exact Rd.own | with_reducible exact Rd.nil | with_reducible apply Rd.cons)))).mono ?_; rintro e107 w107 ⟨rfl, hs107⟩)
              (try go_wp2_with fail)
              refine hKp.out _ _ ?_
              clear hKp Kp
              (try simp only [Act.put, aP, aZ, aS])
              refine pl_take (v := .bool false) (by kernel_rfl) ?_ ?_
              · (go_simp; first | done | with_reducible rfl | rfl | omega | assumption | (simp; omega))
              (try simp only [Act.put, aP, aZ, aS])
              refine pl_take (v := .bool false) rfl ?_ ?_
              · (go_simp; first | done | with_reducible rfl | rfl | omega | assumption | (simp; omega))
              (try simp only [Act.put, aP, aZ, aS])
              refine pl_done ?_
              refine hK25.out _ _ ?_
              (try clear hK25 K25)
              refine wp_cond_false rfl ?_
              refine wp_skip ?_
              refine hK24.out _ _ ?_
              (try clear hK24 K24)
              refine wk_seq (fun K27 hK27 => ?_)
              refine wk_reg ?_
              refine pl_take (v := ?_) rfl ?_ ?_
              rotate_left
              · (first | ((with_reducible apply yl_loadAgg); assumption; rfl; (repeat (first | with_reducible exact Out.here _ | apply Out.there)); (simp); rfl; rfl) | ((with_reducible apply yl_loadAggR); assumption; rfl; (repeat (first | with_reducible assumption | with_reducible exact Rd.own | with_reducible exact Rd.nil | with_reducible apply Rd.cons)); rfl))
              (try simp only [Act.put, aP, aZ, aS])
              refine pl_eff rfl (fun Kp hKp => ?_)
              (first | ((with_reducible apply st_storeAll); assumption; rfl; (go_simp; rfl); (repeat (first | with_reducible exact Out.here _ | apply Out.there)); rfl; (focus (first | (simp [Value.oneCell']; done) | (simp [Value.cells, Value.oneCell']; done))); rfl; intro wr24_1 hsr24_1; simp only [Value.cells] at hsr24_1) | ((with_reducible apply st_store); assumption; rfl; (go_simp; rfl); (repeat (first | with_reducible exact Out.here _ | apply Out.there)); rfl; (first | (focus (simp [Value.oneCell']; done)) | (simp [Value.cells, Value.oneCell'])); (first | (focus (simp; done)) | (simp [Value.cells])); intro wr24_1 hsr24_1; simp only [upd, Value.cells] at hsr24_1))
              refine hKp.out _ _ ?_
              clear hKp Kp
              (try dsimp only [Act.put])
              refine pl_take (v := ?_) rfl ?_ ?_
              rotate_left
              · (go_simp; first | done | with_reducible rfl | rfl | omega | assumption | (simp; omega))
              (try simp only [Act.put, aP, aZ, aS])
              refine pl_done ?_
              refine hK27.out _ _ ?_
              (try clear hK27 K27)
              refine wp_ret ?_
              ((try simp only [Exit.then]); refine retC1T rfl rfl (by assumption) (by (repeat (first | exact Out.here _ | apply Out.there))) (by simp) rfl rfl ?_)
              exact ⟨A9, B9, C9, ca9, cb9, cc9, ys, hys, rfl, (by assumption : Sat w0 _ _).pick (by (repeat (first | exact Pick.nil _ | exact Pick.tail _ | exact Out.here _ | apply Out.there | apply Pick.cons | apply Pick.drop)))⟩
          · obtain rfl : X = (zeroMsg, 21) := by rw [hX3]; simp [hE0]
            have hE1 : (E == 0) = false := by simp [hE0]
            have hE3 : (E != 0) = true := by simp [hE0]
            clear hX3 hE0
            refine hK19.out _ _ ?_
            clear hK19 K19
            refine wk_seq (fun K24 hK24 => ?_)
            refine wk_seq (fun K25 hK25 => ?_)
            refine wk_reg ?_
            refine pl_take (v := .bool true) rfl ?_ ?_
            · (go_simp; first | done | with_reducible rfl | rfl | omega | assumption | (simp; omega))
            (try simp only [Act.put, aP, aZ, aS])
            iterate 2 (refine pl_take (v := .bool false) rfl ?_ ?_; (· (go_simp; first | done | with_reducible rfl | rfl | omega | assumption | (simp; omega))); (try simp only [Act.put, aP, aZ, aS]))
            refine pl_take (v := ?_) (by kernel_rfl) ?_ ?_
            rotate_left
            · (go_simp; first | done | with_reducible rfl | rfl | omega | assumption | (simp; omega))
            (try simp only [Act.put, aP, aZ, aS])
            refine pl_eff (by kernel_rfl) (fun Kp hKp => ?_)
            go_simp
            (refine (cE _ _ _ _ ((by assumption : Sat w0 _ _).pick (.cons (by (repeat (first | with_reducible exact Out.here _ | apply Out.there))) (.tail _)))).mono ?_; rintro e102 w102 ⟨rfl, hs102⟩)
            (try go_wp2_with fail)
            refine hKp.out _ _ ?_
            clear hKp Kp
            (try simp only [Act.put, aP, aZ, aS])
            refine pl_take (v := .bool true) (by kernel_rfl) ?_ ?_
            · (go_simp; first | done | with_reducible rfl | rfl | omega | assumption | (simp; omega))
            (try simp only [Act.put, aP, aZ, aS])
            iterate 2 (refine pl_take (v := .bool true) rfl ?_ ?_; (· (go_simp; first | done | with_reducible rfl | rfl | omega | assumption | (simp; omega))); (try simp only [Act.put, aP, aZ, aS]))
            iterate 3 (refine pl_skip (by kernel_rfl) ?_; (try simp only [Act.put, aP, aZ, aS]))
            refine pl_take (v := .bool true) rfl ?_ ?_
            · (go_simp; first | done | with_reducible rfl | rfl | omega | assumption | (simp; omega))
            (try simp only [Act.put, aP, aZ, aS])
            refine pl_done ?_
            refine hK25.out _ _ ?_
            (try clear hK25 K25)
            refine wp_cond_true rfl ?_
            refine wk_seq (fun K26 hK26 => ?_)
            refine wk_reg ?_
            refine pl_take (v := ?_) rfl ?_ ?_
            rotate_left
            · (go_simp; first | done | with_reducible rfl | rfl | omega | assumption | (simp; omega))
            (try simp only [Act.put, aP, aZ, aS])
            refine pl_eff rfl (fun Kp hKp => ?_)
            (first | ((with_reducible apply st_storeAll); assumption; rfl; (go_simp; rfl); (repeat (first | with_reducible exact Out.here _ | apply Out.there)); rfl; (focus (first | (simp [Value.oneCell']; done) | (simp [Value.cells, Value.oneCell']; done))); rfl; intro wr23_1 hsr23_1; simp only [Value.cells] at hsr23_1) | ((with_reducible apply st_store); assumption; rfl; (go_simp; rfl); (repeat (first | with_reducible exact Out.here _ | apply Out.there)); rfl; (first | (focus (simp [Value.oneCell']; done)) | (simp [Value.cells, Value.oneCell'])); (first | (focus (simp; done)) | (simp [Value.cells])); intro wr23_1 hsr23_1; simp only [upd, Value.cells] at hsr23_1))
            refine hKp.out _ _ ?_
            clear hKp Kp
            (try dsimp only [Act.put])
            refine pl_take (v := ?_) rfl ?_ ?_
            rotate_left
            · (go_simp; first | done | with_reducible rfl | rfl | omega | assumption | (simp; omega))
            (try simp only [Act.put, aP, aZ, aS])
            refine pl_done ?_
            refine hK26.out _ _ ?_
            (try clear hK26 K26)
            refine wp_ret ?_
            ((try simp only [Exit.then]); refine retC1T rfl rfl (by assumption) (by (repeat (first | exact Out.here _ | apply Out.there))) (by simp) rfl rfl ?_)
            exact ⟨none, none, none, 0, 0, 0, [], rfl, rfl, (((((by assumption : Sat w0 _ _).own_nil 5 1).own_nil 3 1).dv_nil).own_nil 41 4).pick (by (repeat (first | exact Pick.nil _ | exact Pick.tail _ | exact Out.here _ | apply Out.there | apply Pick.cons | apply Pick.drop)))⟩
end Go.Proofs.Ytcedbmcnjckajaa
