/-
  Messages: Put of the document.
-/
import Derived.Test.YtcedbmcnjckajaaMsg5
namespace Go.Proofs.Ytcedbmcnjckajaa
open Go Go.RowKit Sl Go.Shelf
set_option maxHeartbeats 2000000
set_option maxRecDepth 8000

theorem refText_spec {w0 w : World} {L : List HP} {A : Option Addr} {c : Nat} (l : List UInt8) (hl : l.length ≤ 1048576) (hs : Sat w0 w L) (hR : Rd w0 L A l.length 1 (B8 l)) :
    Calls Try.prog 33 #[.slice A l.length c] w (RetS w0 L (text l)) := text_spec l hl hs hR


theorem refN0 {w0 w : World} {L : List HP} (hs : Sat w0 w L) : Calls Try.prog 32 #[.int .i64 0] w (RetS w0 L (num 0)) := refNumber_nat 0 (by omega) hs

theorem refN1 {w0 w : World} {L : List HP} (hs : Sat w0 w L) : Calls Try.prog 32 #[.int .i64 1] w (RetS w0 L (num 1)) := refNumber_nat 1 (by omega) hs

theorem refPut_spec {w0 w : World} {L : List HP} {A B C : Option Addr} {ca cb cc : Nat} (kd fr dn tm na nb nc nd : Int) (yes : Bool) (es : List Ent) (sv : List Int) (dt : List UInt8)
    (he : es.length ≤ 1048576) (hv : sv.length ≤ 1048576) (hd : dt.length ≤ 1048576) (hlen : ∀ x ∈ es, x.d.length ≤ 1048576) (hs : Sat w0 w L)
    (hE : SlV EntV 4 (Rd w0 L) [.slice A es.length ca] es) (hB : Rd w0 L B sv.length 1 (I8 sv)) (hC : Rd w0 L C dt.length 1 (B8 dt)) :
    Calls Try.prog 11 #[.agg #[.int .i64 kd, .int .i64 fr, .int .i64 dn, .int .i64 tm, .int .i64 na, .int .i64 nb, .int .i64 nc, .int .i64 nd, .bool yes, .slice A es.length ca, .slice B sv.length cb, .slice C dt.length cc]] w
      (RetT w0 L (putMsg ⟨kd, fr, dn, tm, na, nb, nc, nd, yes, es, sv, dt⟩)) := by
  obtain ⟨β, hβ⟩ : ∃ β, rightM ⟨kd, fr, dn, tm, na, nb, nc, nd, yes, es, sv, dt⟩ = β := ⟨_, rfl⟩
  have hR : ∀ {w : World} {L' : List HP}, Sat w0 w L' → SlV EntV 4 (Rd w0 L') [.slice A es.length ca] es → Rd w0 L' B sv.length 1 (I8 sv) → Calls Try.prog 30 #[.agg #[.int .i64 kd, .int .i64 fr, .int .i64 dn, .int .i64 tm, .int .i64 na, .int .i64 nb, .int .i64 nc, .int .i64 nd, .bool yes, .slice A es.length ca, .slice B sv.length cb, .slice C dt.length cc]] w (RetB w0 L' β) := fun hs hE hB => by
    rw [← hβ]; exact refRight_spec kd fr dn tm na nb nc nd yes es sv dt he hv hd hlen hs hE hB
  obtain ⟨X, hX⟩ : ∃ X, putMsg ⟨kd, fr, dn, tm, na, nb, nc, nd, yes, es, sv, dt⟩ = X := ⟨_, rfl⟩
  rw [hX]
  cases β with
  | false =>
    obtain rfl : X = ([], 1) := by rw [← hX]; unfold putMsg; rw [hβ]; rfl
    clear hX hβ
    go_enter Try.func11, Try.ntmps11
    refine wk_seq (fun K0 hK0 => ?_)
    refine wk_reg ?_
    refine pl_eff rfl (fun Kp hKp => ?_)
    ((with_reducible apply st_box); assumption; (go_simp; rfl); intro b1 w1 hs1; simp only [Value.cells] at hs1)
    refine hKp.out _ _ ?_
    clear hKp Kp
    (try simp only [Act.put, List.setIfInBounds_toArray, List.set_cons_zero, List.set_cons_succ])
    iterate 2 (refine pl_take (v := ?_) rfl ?_ ?_; rotate_left; (· (go_simp; first | done | with_reducible rfl | rfl | omega | assumption | (simp; omega))); (try simp only [Act.put, List.setIfInBounds_toArray, List.set_cons_zero, List.set_cons_succ]))
    refine pl_done ?_
    refine hK0.out _ _ ?_
    (try clear hK0 K0)
    refine wk_seq (fun K1 hK1 => ?_)
    refine wk_seq (fun K2 hK2 => ?_)
    refine wk_reg ?_
    refine pl_take (v := ?_) rfl ?_ ?_
    rotate_left
    · (first | ((with_reducible apply yl_loadAgg); assumption; rfl; (repeat (first | with_reducible exact Out.here _ | apply Out.there)); (simp); rfl; rfl) | ((with_reducible apply yl_loadAggR); assumption; rfl; (repeat (first | with_reducible assumption | with_reducible exact Rd.own | with_reducible exact Rd.nil | with_reducible apply Rd.cons)); rfl))
    (try simp only [Act.put, List.setIfInBounds_toArray, List.set_cons_zero, List.set_cons_succ])
    refine pl_eff rfl (fun Kp hKp => ?_)
    go_simp
    (refine (hR (by assumption) ((SlV.mono EntV.mono).cons hE) hB.cons).mono ?_; rintro e9 w9 ⟨rfl, hs9⟩)
    (try go_wp2_with fail)
    refine hKp.out _ _ ?_
    clear hKp Kp
    (try simp only [Act.put, List.setIfInBounds_toArray, List.set_cons_zero, List.set_cons_succ])
    refine pl_take (v := .bool true) rfl ?_ ?_
    · (go_simp; first | done | with_reducible rfl | rfl | omega | assumption | (simp; omega))
    (try simp only [Act.put, List.setIfInBounds_toArray, List.set_cons_zero, List.set_cons_succ])
    refine pl_done ?_
    refine hK2.out _ _ ?_
    (try clear hK2 K2)
    refine wp_cond_true rfl ?_
    refine wk_seq (fun K3 hK3 => ?_)
    refine wk_reg ?_
    iterate 2 (refine pl_take (v := ?_) rfl ?_ ?_; rotate_left; (· (go_simp; first | done | with_reducible rfl | rfl | omega | assumption | (simp; omega))); (try simp only [Act.put, List.setIfInBounds_toArray, List.set_cons_zero, List.set_cons_succ]))
    refine pl_done ?_
    refine hK3.out _ _ ?_
    (try clear hK3 K3)
    refine wp_ret ?_
    go_ret2
    exact RetT.mk (hs9.own_nil _ _) (by (repeat (first | exact Pick.nil _ | exact Pick.tail _ | exact Out.here _ | apply Out.there | apply Pick.cons | apply Pick.drop))) rfl rfl rfl
  | true =>
    obtain ⟨hP, hall, h5s⟩ := rightM_iff.1 hβ
    obtain ⟨hN, h8, h3, hD, h5⟩ := rightP_iff.1 hP
    have hn := okNums_iff.1 hN
    simp only at hn h8 h3 hD h5 hall h5s
    have hXb : X = (catNums [kd, fr, dn, tm, na, nb, nc, nd] ++ yesBytes yes ++ msgTail ⟨kd, fr, dn, tm, na, nb, nc, nd, yes, es, sv, dt⟩, 0) := by rw [← hX]; unfold putMsg; rw [hβ]; rfl
    have HXa := Hid.mk' hXb
    have Hall := Hid.mk' hall
    have H5s := Hid.mk' h5s
    clear hX hβ hP hN hXb hall h5s
    have l0 := num_len6 kd.toNat (by omega)
    have l1 := num_len6 fr.toNat (by omega)
    have l2 := num_len6 dn.toNat (by omega)
    have l3 := num_len6 tm.toNat (by omega)
    have l4 := num_len6 na.toNat (by omega)
    have l5 := num_len6 nb.toNat (by omega)
    have l6 := num_len6 nc.toNat (by omega)
    have l7 := num_len6 nd.toNat (by omega)
    have hs0 := hs.own_nil 5 1
    go_enter Try.func11, Try.ntmps11
    refine wk_seq (fun K0 hK0 => ?_)
    refine wk_reg ?_
    refine pl_eff rfl (fun Kp hKp => ?_)
    ((with_reducible apply st_box); assumption; (go_simp; rfl); intro b1 w1 hs1; simp only [Value.cells] at hs1)
    refine hKp.out _ _ ?_
    clear hKp Kp
    (try simp only [Act.put, List.setIfInBounds_toArray, List.set_cons_zero, List.set_cons_succ])
    iterate 2 (refine pl_take (v := ?_) rfl ?_ ?_; rotate_left; (· (go_simp; first | done | with_reducible rfl | rfl | omega | assumption | (simp; omega))); (try simp only [Act.put, List.setIfInBounds_toArray, List.set_cons_zero, List.set_cons_succ]))
    refine pl_done ?_
    refine hK0.out _ _ ?_
    (try clear hK0 K0)
    refine wk_seq (fun K1 hK1 => ?_)
    refine wk_seq (fun K2 hK2 => ?_)
    refine wk_reg ?_
    refine pl_take (v := ?_) rfl ?_ ?_
    rotate_left
    · (first | ((with_reducible apply yl_loadAgg); assumption; rfl; (repeat (first | with_reducible exact Out.here _ | apply Out.there)); (simp); rfl; rfl) | ((with_reducible apply yl_loadAggR); assumption; rfl; (repeat (first | with_reducible assumption | with_reducible exact Rd.own | with_reducible exact Rd.nil | with_reducible apply Rd.cons)); rfl))
    (try simp only [Act.put, List.setIfInBounds_toArray, List.set_cons_zero, List.set_cons_succ])
    refine pl_eff rfl (fun Kp hKp => ?_)
    go_simp
    (refine (hR (by assumption) ((SlV.mono EntV.mono).cons ((SlV.mono EntV.mono).cons hE)) hB.cons.cons).mono ?_; rintro e9 w9 ⟨rfl, hs9⟩)
    (try go_wp2_with fail)
    refine hKp.out _ _ ?_
    clear hKp Kp
    (try simp only [Act.put, List.setIfInBounds_toArray, List.set_cons_zero, List.set_cons_succ])
    refine pl_take (v := .bool false) rfl ?_ ?_
    · (go_simp; first | done | with_reducible rfl | rfl | omega | assumption | (simp; omega))
    (try simp only [Act.put, List.setIfInBounds_toArray, List.set_cons_zero, List.set_cons_succ])
    refine pl_done ?_
    refine hK2.out _ _ ?_
    (try clear hK2 K2)
    refine wp_cond_false rfl ?_
    refine wp_skip ?_
    refine hK1.out _ _ ?_
    (try clear hK1 K1)
    refine wk_seq (fun K4 hK4 => ?_)
    refine wk_reg ?_
    refine pl_take (v := ?_) rfl ?_ ?_
    rotate_left
    · (go_simp; first | done | with_reducible rfl | rfl | omega | assumption | (simp; omega))
    (try simp only [Act.put, List.setIfInBounds_toArray, List.set_cons_zero, List.set_cons_succ])
    refine pl_done ?_
    refine hK4.out _ _ ?_
    (try clear hK4 K4)
    refine wk_seq (fun K5 hK5 => ?_)
    refine wk_reg ?_
    refine pl_take (v := ?_) rfl ?_ ?_
    rotate_left
    · (first | ((with_reducible apply yl_loadAgg); assumption; rfl; (repeat (first | with_reducible exact Out.here _ | apply Out.there)); (simp); rfl; rfl) | ((with_reducible apply yl_loadAggR); assumption; rfl; (repeat (first | with_reducible assumption | with_reducible exact Rd.own | with_reducible exact Rd.nil | with_reducible apply Rd.cons)); rfl))
    (try simp only [Act.put, List.setIfInBounds_toArray, List.set_cons_zero, List.set_cons_succ])
    refine pl_eff rfl (fun Kp hKp => ?_)
    go_simp
    ((refine (refNumbers_spec _ _ _ _ _ _ _ _ _ (by assumption)).mono ?_); rintro e12 w12 ⟨g12, c12, rfl, hs12⟩)
    (try go_wp2_with fail)
    refine hKp.out _ _ ?_
    clear hKp Kp
    (try simp only [Act.put, List.setIfInBounds_toArray, List.set_cons_zero, List.set_cons_succ])
    refine pl_take (v := ?_) rfl ?_ ?_
    rotate_left
    · (go_simp; first | done | with_reducible rfl | rfl | omega | assumption | (simp; omega))
    (try simp only [Act.put, List.setIfInBounds_toArray, List.set_cons_zero, List.set_cons_succ])
    refine pl_done ?_
    refine hK5.out _ _ ?_
    (try clear hK5 K5)
    refine wk_seq (fun K6 hK6 => ?_)
    -- at a cut
    obtain ⟨acc, hacc⟩ : ∃ acc, acc = catNums [kd, fr, dn, tm, na, nb, nc, nd] := ⟨_, rfl⟩
    have Hacc := Hid.mk' hacc
    have haccl : acc.length ≤ 64 := by rw [hacc]; simp [catNums]; omega
    clear hacc
    go_cut [4] from 8 to 23 (fun s4 w => ∃ A1 c1, s4 = .slice A1 acc.length c1 ∧ Sat w0 w (own 5 1 A1 c1 acc.length (B8 acc) :: blk b1 (.cells #[.int .i64 kd, .int .i64 fr, .int .i64 dn, .int .i64 tm, .int .i64 na, .int .i64 nb, .int .i64 nc, .int .i64 nd, .bool yes, .slice A es.length ca, .slice B sv.length cb, .slice C dt.length cc] 26 (0, 0)) :: L))
    case first =>
      refine wk_seq (fun K7 hK7 => ?_)
      refine wk_reg ?_
      refine pl_take (v := ?_) rfl ?_ ?_
      rotate_left
      · (go_simp; first | done | with_reducible rfl | rfl | omega | assumption | (simp; omega))
      (try simp only [Act.put, List.setIfInBounds_toArray, List.set_cons_zero, List.set_cons_succ])
      refine pl_done ?_
      refine hK7.out _ _ ?_
      (try clear hK7 K7)
      refine wp_block ?_
      have hwr1 : IntKind.i64.wrap 1 = 1 := by decide
      have hwr2 : IntKind.i64.wrap 2 = 2 := by decide
      have hwr3 : IntKind.i64.wrap 3 = 3 := by decide
      have hwr4 : IntKind.i64.wrap 4 = 4 := by decide
      have hwr5 : IntKind.i64.wrap 5 = 5 := by decide
      have hwr6 : IntKind.i64.wrap 6 = 6 := by decide
      have hwr7 : IntKind.i64.wrap 7 = 7 := by decide
      have hwr8 : IntKind.i64.wrap 8 = 8 := by decide
      have hwr9 : IntKind.i64.wrap 9 = 9 := by decide
      have hwr10 : IntKind.i64.wrap 10 = 10 := by decide
      have hwr11 : IntKind.i64.wrap 11 = 11 := by decide
      have hwr12 : IntKind.i64.wrap 12 = 12 := by decide
      have hwr13 : IntKind.i64.wrap 13 = 13 := by decide
      refine wp_loop_rounds 9 ?_
      rw [rounds_succ]
      refine wk_seq (fun K8 hK8 => ?_)
      refine wk_seq (fun K9 hK9 => ?_)
      refine wk_reg ?_
      refine pl_take (v := ?_) rfl ?_ ?_
      rotate_left
      · (go_simp; first | done | with_reducible rfl | rfl | omega | assumption | (simp; omega))
      (try simp only [Act.put, List.setIfInBounds_toArray, List.set_cons_zero, List.set_cons_succ])
      refine pl_take (v := .bool true) rfl ?_ ?_
      · (go_simp; first | done | with_reducible rfl | rfl | omega | assumption | (simp; omega))
      (try simp only [Act.put, List.setIfInBounds_toArray, List.set_cons_zero, List.set_cons_succ])
      refine pl_done ?_
      refine hK9.out _ _ ?_
      (try clear hK9 K9)
      refine wp_cond_true rfl ?_
      refine wp_skip ?_
      refine hK8.out _ _ ?_
      (try clear hK8 K8)
      refine wk_seq (fun K10 hK10 => ?_)
      refine wp_block ?_
      refine wk_reg ?_
      iterate 5 (refine pl_take (v := ?_) rfl ?_ ?_; rotate_left; (· (first | ((with_reducible apply yl_load); assumption; rfl; (repeat (first | with_reducible assumption | ((with_reducible apply Cl.own); exact rfl) | ((with_reducible apply Cl.blkL); exact rfl) | with_reducible apply Cl.cons)); rfl) | (go_simp; first | done | with_reducible rfl | rfl | omega | assumption | (simp; omega)))); (try simp only [Act.put, List.setIfInBounds_toArray, List.set_cons_zero, List.set_cons_succ]))
      refine pl_eff rfl (fun Kp hKp => ?_)
      go_simp
      ((refine (refNumber_spec _ (by omega) (by omega) (by assumption)).mono ?_); rintro e22 w22 ⟨A22, c22, rfl, hs22⟩)
      (try go_wp2_with fail)
      refine hKp.out _ _ ?_
      clear hKp Kp
      (try simp only [Act.put, List.setIfInBounds_toArray, List.set_cons_zero, List.set_cons_succ])
      refine pl_eff rfl (fun Kp hKp => ?_)
      ((with_reducible apply st_append); go_must (assumption; rfl; rfl; (repeat (first | with_reducible exact Out.here _ | apply Out.there)); (repeat (first | with_reducible assumption | with_reducible exact Rd.own | with_reducible exact Rd.nil | with_reducible apply Rd.cons)); (first | exact B8_one _ | exact I8_one _ | (simp [Value.oneCell'])); (first | omega | (simp only [maxLen]; omega)); omega; intro A23 c23 w23 hs23 hc23; (try ((refine hs23.own_elim ?_ ?_); omega; rintro g23 rfl)); try simp only [Nat.zero_add, List.nil_append] at hs23 hc23))
      refine hKp.out _ _ ?_
      clear hKp Kp
      (try simp only [Act.put, List.setIfInBounds_toArray, List.set_cons_zero, List.set_cons_succ])
      refine pl_take (v := ?_) rfl ?_ ?_
      rotate_left
      · (go_simp; first | done | with_reducible rfl | rfl | omega | assumption | (simp; omega))
      (try simp only [Act.put, List.setIfInBounds_toArray, List.set_cons_zero, List.set_cons_succ])
      refine pl_done ?_
      refine hK10.out _ _ ?_
      (try clear hK10 K10)
      refine wk_reg ?_
      iterate 3 (refine pl_take (v := ?_) rfl ?_ ?_; rotate_left; (· (go_simp; first | done | with_reducible rfl | rfl | omega | assumption | (simp; omega))); (try simp only [Act.put, List.setIfInBounds_toArray, List.set_cons_zero, List.set_cons_succ]))
      refine pl_done ?_
      show Code.rounds _ _ _ _ _ _
      rw [rounds_succ]
      refine wk_seq (fun K8 hK8 => ?_)
      refine wk_seq (fun K9 hK9 => ?_)
      refine wk_reg ?_
      refine pl_take (v := ?_) rfl ?_ ?_
      rotate_left
      · (go_simp; first | done | with_reducible rfl | rfl | omega | assumption | (simp; omega))
      (try simp only [Act.put, List.setIfInBounds_toArray, List.set_cons_zero, List.set_cons_succ])
      refine pl_take (v := .bool true) rfl ?_ ?_
      · (go_simp; first | done | with_reducible rfl | rfl | omega | assumption | (simp; omega))
      (try simp only [Act.put, List.setIfInBounds_toArray, List.set_cons_zero, List.set_cons_succ])
      refine pl_done ?_
      refine hK9.out _ _ ?_
      (try clear hK9 K9)
      refine wp_cond_true rfl ?_
      refine wp_skip ?_
      refine hK8.out _ _ ?_
      (try clear hK8 K8)
      refine wk_seq (fun K10 hK10 => ?_)
      refine wp_block ?_
      refine wk_reg ?_
      iterate 5 (refine pl_take (v := ?_) rfl ?_ ?_; rotate_left; (· (first | ((with_reducible apply yl_load); assumption; rfl; (repeat (first | with_reducible assumption | ((with_reducible apply Cl.own); exact rfl) | ((with_reducible apply Cl.blkL); exact rfl) | with_reducible apply Cl.cons)); rfl) | (go_simp; first | done | with_reducible rfl | rfl | omega | assumption | (simp; omega)))); (try simp only [Act.put, List.setIfInBounds_toArray, List.set_cons_zero, List.set_cons_succ]))
      refine pl_eff rfl (fun Kp hKp => ?_)
      go_simp
      ((refine (refNumber_spec _ (by omega) (by omega) (by assumption)).mono ?_); rintro e22 w22 ⟨A22, c22, rfl, hs22⟩)
      (try go_wp2_with fail)
      refine hKp.out _ _ ?_
      clear hKp Kp
      (try simp only [Act.put, List.setIfInBounds_toArray, List.set_cons_zero, List.set_cons_succ])
      refine pl_eff rfl (fun Kp hKp => ?_)
      ((with_reducible apply st_append); go_must (assumption; rfl; rfl; (repeat (first | with_reducible exact Out.here _ | apply Out.there)); (repeat (first | with_reducible assumption | with_reducible exact Rd.own | with_reducible exact Rd.nil | with_reducible apply Rd.cons)); (first | exact B8_one _ | exact I8_one _ | (simp [Value.oneCell'])); (first | omega | (simp only [maxLen]; omega)); omega; intro A23 c23 w23 hs23 hc23; (try ((refine hs23.own_elim ?_ ?_); omega; rintro g23 rfl)); try simp only [Nat.zero_add, List.nil_append] at hs23 hc23))
      refine hKp.out _ _ ?_
      clear hKp Kp
      (try simp only [Act.put, List.setIfInBounds_toArray, List.set_cons_zero, List.set_cons_succ])
      refine pl_take (v := ?_) rfl ?_ ?_
      rotate_left
      · (go_simp; first | done | with_reducible rfl | rfl | omega | assumption | (simp; omega))
      (try simp only [Act.put, List.setIfInBounds_toArray, List.set_cons_zero, List.set_cons_succ])
      refine pl_done ?_
      refine hK10.out _ _ ?_
      (try clear hK10 K10)
      refine wk_reg ?_
      iterate 3 (refine pl_take (v := ?_) rfl ?_ ?_; rotate_left; (· (go_simp; first | done | with_reducible rfl | rfl | omega | assumption | (simp; omega))); (try simp only [Act.put, List.setIfInBounds_toArray, List.set_cons_zero, List.set_cons_succ]))
      refine pl_done ?_
      show Code.rounds _ _ _ _ _ _
      rw [rounds_succ]
      refine wk_seq (fun K8 hK8 => ?_)
      refine wk_seq (fun K9 hK9 => ?_)
      refine wk_reg ?_
      refine pl_take (v := ?_) rfl ?_ ?_
      rotate_left
      · (go_simp; first | done | with_reducible rfl | rfl | omega | assumption | (simp; omega))
      (try simp only [Act.put, List.setIfInBounds_toArray, List.set_cons_zero, List.set_cons_succ])
      refine pl_take (v := .bool true) rfl ?_ ?_
      · (go_simp; first | done | with_reducible rfl | rfl | omega | assumption | (simp; omega))
      (try simp only [Act.put, List.setIfInBounds_toArray, List.set_cons_zero, List.set_cons_succ])
      refine pl_done ?_
      refine hK9.out _ _ ?_
      (try clear hK9 K9)
      refine wp_cond_true rfl ?_
      refine wp_skip ?_
      refine hK8.out _ _ ?_
      (try clear hK8 K8)
      refine wk_seq (fun K10 hK10 => ?_)
      refine wp_block ?_
      refine wk_reg ?_
      iterate 5 (refine pl_take (v := ?_) rfl ?_ ?_; rotate_left; (· (first | ((with_reducible apply yl_load); assumption; rfl; (repeat (first | with_reducible assumption | ((with_reducible apply Cl.own); exact rfl) | ((with_reducible apply Cl.blkL); exact rfl) | with_reducible apply Cl.cons)); rfl) | (go_simp; first | done | with_reducible rfl | rfl | omega | assumption | (simp; omega)))); (try simp only [Act.put, List.setIfInBounds_toArray, List.set_cons_zero, List.set_cons_succ]))
      refine pl_eff rfl (fun Kp hKp => ?_)
      go_simp
      ((refine (refNumber_spec _ (by omega) (by omega) (by assumption)).mono ?_); rintro e22 w22 ⟨A22, c22, rfl, hs22⟩)
      (try go_wp2_with fail)
      refine hKp.out _ _ ?_
      clear hKp Kp
      (try simp only [Act.put, List.setIfInBounds_toArray, List.set_cons_zero, List.set_cons_succ])
      refine pl_eff rfl (fun Kp hKp => ?_)
      ((with_reducible apply st_append); go_must (assumption; rfl; rfl; (repeat (first | with_reducible exact Out.here _ | apply Out.there)); (repeat (first | with_reducible assumption | with_reducible exact Rd.own | with_reducible exact Rd.nil | with_reducible apply Rd.cons)); (first | exact B8_one _ | exact I8_one _ | (simp [Value.oneCell'])); (first | omega | (simp only [maxLen]; omega)); omega; intro A23 c23 w23 hs23 hc23; (try ((refine hs23.own_elim ?_ ?_); omega; rintro g23 rfl)); try simp only [Nat.zero_add, List.nil_append] at hs23 hc23))
      refine hKp.out _ _ ?_
      clear hKp Kp
      (try simp only [Act.put, List.setIfInBounds_toArray, List.set_cons_zero, List.set_cons_succ])
      refine pl_take (v := ?_) rfl ?_ ?_
      rotate_left
      · (go_simp; first | done | with_reducible rfl | rfl | omega | assumption | (simp; omega))
      (try simp only [Act.put, List.setIfInBounds_toArray, List.set_cons_zero, List.set_cons_succ])
      refine pl_done ?_
      refine hK10.out _ _ ?_
      (try clear hK10 K10)
      refine wk_reg ?_
      iterate 3 (refine pl_take (v := ?_) rfl ?_ ?_; rotate_left; (· (go_simp; first | done | with_reducible rfl | rfl | omega | assumption | (simp; omega))); (try simp only [Act.put, List.setIfInBounds_toArray, List.set_cons_zero, List.set_cons_succ]))
      refine pl_done ?_
      show Code.rounds _ _ _ _ _ _
      rw [rounds_succ]
      refine wk_seq (fun K8 hK8 => ?_)
      refine wk_seq (fun K9 hK9 => ?_)
      refine wk_reg ?_
      refine pl_take (v := ?_) rfl ?_ ?_
      rotate_left
      · (go_simp; first | done | with_reducible rfl | rfl | omega | assumption | (simp; omega))
      (try simp only [Act.put, List.setIfInBounds_toArray, List.set_cons_zero, List.set_cons_succ])
      refine pl_take (v := .bool true) rfl ?_ ?_
      · (go_simp; first | done | with_reducible rfl | rfl | omega | assumption | (simp; omega))
      (try simp only [Act.put, List.setIfInBounds_toArray, List.set_cons_zero, List.set_cons_succ])
      refine pl_done ?_
      refine hK9.out _ _ ?_
      (try clear hK9 K9)
      refine wp_cond_true rfl ?_
      refine wp_skip ?_
      refine hK8.out _ _ ?_
      (try clear hK8 K8)
      refine wk_seq (fun K10 hK10 => ?_)
      refine wp_block ?_
      refine wk_reg ?_
      iterate 5 (refine pl_take (v := ?_) rfl ?_ ?_; rotate_left; (· (first | ((with_reducible apply yl_load); assumption; rfl; (repeat (first | with_reducible assumption | ((with_reducible apply Cl.own); exact rfl) | ((with_reducible apply Cl.blkL); exact rfl) | with_reducible apply Cl.cons)); rfl) | (go_simp; first | done | with_reducible rfl | rfl | omega | assumption | (simp; omega)))); (try simp only [Act.put, List.setIfInBounds_toArray, List.set_cons_zero, List.set_cons_succ]))
      refine pl_eff rfl (fun Kp hKp => ?_)
      go_simp
      ((refine (refNumber_spec _ (by omega) (by omega) (by assumption)).mono ?_); rintro e22 w22 ⟨A22, c22, rfl, hs22⟩)
      (try go_wp2_with fail)
      refine hKp.out _ _ ?_
      clear hKp Kp
      (try simp only [Act.put, List.setIfInBounds_toArray, List.set_cons_zero, List.set_cons_succ])
      refine pl_eff rfl (fun Kp hKp => ?_)
      ((with_reducible apply st_append); go_must (assumption; rfl; rfl; (repeat (first | with_reducible exact Out.here _ | apply Out.there)); (repeat (first | with_reducible assumption | with_reducible exact Rd.own | with_reducible exact Rd.nil | with_reducible apply Rd.cons)); (first | exact B8_one _ | exact I8_one _ | (simp [Value.oneCell'])); (first | omega | (simp only [maxLen]; omega)); omega; intro A23 c23 w23 hs23 hc23; (try ((refine hs23.own_elim ?_ ?_); omega; rintro g23 rfl)); try simp only [Nat.zero_add, List.nil_append] at hs23 hc23))
      refine hKp.out _ _ ?_
      clear hKp Kp
      (try simp only [Act.put, List.setIfInBounds_toArray, List.set_cons_zero, List.set_cons_succ])
      refine pl_take (v := ?_) rfl ?_ ?_
      rotate_left
      · (go_simp; first | done | with_reducible rfl | rfl | omega | assumption | (simp; omega))
      (try simp only [Act.put, List.setIfInBounds_toArray, List.set_cons_zero, List.set_cons_succ])
      refine pl_done ?_
      refine hK10.out _ _ ?_
      (try clear hK10 K10)
      refine wk_reg ?_
      iterate 3 (refine pl_take (v := ?_) rfl ?_ ?_; rotate_left; (· (go_simp; first | done | with_reducible rfl | rfl | omega | assumption | (simp; omega))); (try simp only [Act.put, List.setIfInBounds_toArray, List.set_cons_zero, List.set_cons_succ]))
      refine pl_done ?_
      show Code.rounds _ _ _ _ _ _
      rw [rounds_succ]
      refine wk_seq (fun K8 hK8 => ?_)
      refine wk_seq (fun K9 hK9 => ?_)
      refine wk_reg ?_
      refine pl_take (v := ?_) rfl ?_ ?_
      rotate_left
      · (go_simp; first | done | with_reducible rfl | rfl | omega | assumption | (simp; omega))
      (try simp only [Act.put, List.setIfInBounds_toArray, List.set_cons_zero, List.set_cons_succ])
      refine pl_take (v := .bool true) rfl ?_ ?_
      · (go_simp; first | done | with_reducible rfl | rfl | omega | assumption | (simp; omega))
      (try simp only [Act.put, List.setIfInBounds_toArray, List.set_cons_zero, List.set_cons_succ])
      refine pl_done ?_
      refine hK9.out _ _ ?_
      (try clear hK9 K9)
      refine wp_cond_true rfl ?_
      refine wp_skip ?_
      refine hK8.out _ _ ?_
      (try clear hK8 K8)
      refine wk_seq (fun K10 hK10 => ?_)
      refine wp_block ?_
      refine wk_reg ?_
      iterate 5 (refine pl_take (v := ?_) rfl ?_ ?_; rotate_left; (· (first | ((with_reducible apply yl_load); assumption; rfl; (repeat (first | with_reducible assumption | ((with_reducible apply Cl.own); exact rfl) | ((with_reducible apply Cl.blkL); exact rfl) | with_reducible apply Cl.cons)); rfl) | (go_simp; first | done | with_reducible rfl | rfl | omega | assumption | (simp; omega)))); (try simp only [Act.put, List.setIfInBounds_toArray, List.set_cons_zero, List.set_cons_succ]))
      refine pl_eff rfl (fun Kp hKp => ?_)
      go_simp
      ((refine (refNumber_spec _ (by omega) (by omega) (by assumption)).mono ?_); rintro e22 w22 ⟨A22, c22, rfl, hs22⟩)
      (try go_wp2_with fail)
      refine hKp.out _ _ ?_
      clear hKp Kp
      (try simp only [Act.put, List.setIfInBounds_toArray, List.set_cons_zero, List.set_cons_succ])
      refine pl_eff rfl (fun Kp hKp => ?_)
      ((with_reducible apply st_append); go_must (assumption; rfl; rfl; (repeat (first | with_reducible exact Out.here _ | apply Out.there)); (repeat (first | with_reducible assumption | with_reducible exact Rd.own | with_reducible exact Rd.nil | with_reducible apply Rd.cons)); (first | exact B8_one _ | exact I8_one _ | (simp [Value.oneCell'])); (first | omega | (simp only [maxLen]; omega)); omega; intro A23 c23 w23 hs23 hc23; (try ((refine hs23.own_elim ?_ ?_); omega; rintro g23 rfl)); try simp only [Nat.zero_add, List.nil_append] at hs23 hc23))
      refine hKp.out _ _ ?_
      clear hKp Kp
      (try simp only [Act.put, List.setIfInBounds_toArray, List.set_cons_zero, List.set_cons_succ])
      refine pl_take (v := ?_) rfl ?_ ?_
      rotate_left
      · (go_simp; first | done | with_reducible rfl | rfl | omega | assumption | (simp; omega))
      (try simp only [Act.put, List.setIfInBounds_toArray, List.set_cons_zero, List.set_cons_succ])
      refine pl_done ?_
      refine hK10.out _ _ ?_
      (try clear hK10 K10)
      refine wk_reg ?_
      iterate 3 (refine pl_take (v := ?_) rfl ?_ ?_; rotate_left; (· (go_simp; first | done | with_reducible rfl | rfl | omega | assumption | (simp; omega))); (try simp only [Act.put, List.setIfInBounds_toArray, List.set_cons_zero, List.set_cons_succ]))
      refine pl_done ?_
      show Code.rounds _ _ _ _ _ _
      rw [rounds_succ]
      refine wk_seq (fun K8 hK8 => ?_)
      refine wk_seq (fun K9 hK9 => ?_)
      refine wk_reg ?_
      refine pl_take (v := ?_) rfl ?_ ?_
      rotate_left
      · (go_simp; first | done | with_reducible rfl | rfl | omega | assumption | (simp; omega))
      (try simp only [Act.put, List.setIfInBounds_toArray, List.set_cons_zero, List.set_cons_succ])
      refine pl_take (v := .bool true) rfl ?_ ?_
      · (go_simp; first | done | with_reducible rfl | rfl | omega | assumption | (simp; omega))
      (try simp only [Act.put, List.setIfInBounds_toArray, List.set_cons_zero, List.set_cons_succ])
      refine pl_done ?_
      refine hK9.out _ _ ?_
      (try clear hK9 K9)
      refine wp_cond_true rfl ?_
      refine wp_skip ?_
      refine hK8.out _ _ ?_
      (try clear hK8 K8)
      refine wk_seq (fun K10 hK10 => ?_)
      refine wp_block ?_
      refine wk_reg ?_
      iterate 5 (refine pl_take (v := ?_) rfl ?_ ?_; rotate_left; (· (first | ((with_reducible apply yl_load); assumption; rfl; (repeat (first | with_reducible assumption | ((with_reducible apply Cl.own); exact rfl) | ((with_reducible apply Cl.blkL); exact rfl) | with_reducible apply Cl.cons)); rfl) | (go_simp; first | done | with_reducible rfl | rfl | omega | assumption | (simp; omega)))); (try simp only [Act.put, List.setIfInBounds_toArray, List.set_cons_zero, List.set_cons_succ]))
      refine pl_eff rfl (fun Kp hKp => ?_)
      go_simp
      ((refine (refNumber_spec _ (by omega) (by omega) (by assumption)).mono ?_); rintro e22 w22 ⟨A22, c22, rfl, hs22⟩)
      (try go_wp2_with fail)
      refine hKp.out _ _ ?_
      clear hKp Kp
      (try simp only [Act.put, List.setIfInBounds_toArray, List.set_cons_zero, List.set_cons_succ])
      refine pl_eff rfl (fun Kp hKp => ?_)
      ((with_reducible apply st_append); go_must (assumption; rfl; rfl; (repeat (first | with_reducible exact Out.here _ | apply Out.there)); (repeat (first | with_reducible assumption | with_reducible exact Rd.own | with_reducible exact Rd.nil | with_reducible apply Rd.cons)); (first | exact B8_one _ | exact I8_one _ | (simp [Value.oneCell'])); (first | omega | (simp only [maxLen]; omega)); omega; intro A23 c23 w23 hs23 hc23; (try ((refine hs23.own_elim ?_ ?_); omega; rintro g23 rfl)); try simp only [Nat.zero_add, List.nil_append] at hs23 hc23))
      refine hKp.out _ _ ?_
      clear hKp Kp
      (try simp only [Act.put, List.setIfInBounds_toArray, List.set_cons_zero, List.set_cons_succ])
      refine pl_take (v := ?_) rfl ?_ ?_
      rotate_left
      · (go_simp; first | done | with_reducible rfl | rfl | omega | assumption | (simp; omega))
      (try simp only [Act.put, List.setIfInBounds_toArray, List.set_cons_zero, List.set_cons_succ])
      refine pl_done ?_
      refine hK10.out _ _ ?_
      (try clear hK10 K10)
      refine wk_reg ?_
      iterate 3 (refine pl_take (v := ?_) rfl ?_ ?_; rotate_left; (· (go_simp; first | done | with_reducible rfl | rfl | omega | assumption | (simp; omega))); (try simp only [Act.put, List.setIfInBounds_toArray, List.set_cons_zero, List.set_cons_succ]))
      refine pl_done ?_
      show Code.rounds _ _ _ _ _ _
      rw [rounds_succ]
      refine wk_seq (fun K8 hK8 => ?_)
      refine wk_seq (fun K9 hK9 => ?_)
      refine wk_reg ?_
      refine pl_take (v := ?_) rfl ?_ ?_
      rotate_left
      · (go_simp; first | done | with_reducible rfl | rfl | omega | assumption | (simp; omega))
      (try simp only [Act.put, List.setIfInBounds_toArray, List.set_cons_zero, List.set_cons_succ])
      refine pl_take (v := .bool true) rfl ?_ ?_
      · (go_simp; first | done | with_reducible rfl | rfl | omega | assumption | (simp; omega))
      (try simp only [Act.put, List.setIfInBounds_toArray, List.set_cons_zero, List.set_cons_succ])
      refine pl_done ?_
      refine hK9.out _ _ ?_
      (try clear hK9 K9)
      refine wp_cond_true rfl ?_
      refine wp_skip ?_
      refine hK8.out _ _ ?_
      (try clear hK8 K8)
      refine wk_seq (fun K10 hK10 => ?_)
      refine wp_block ?_
      refine wk_reg ?_
      iterate 5 (refine pl_take (v := ?_) rfl ?_ ?_; rotate_left; (· (first | ((with_reducible apply yl_load); assumption; rfl; (repeat (first | with_reducible assumption | ((with_reducible apply Cl.own); exact rfl) | ((with_reducible apply Cl.blkL); exact rfl) | with_reducible apply Cl.cons)); rfl) | (go_simp; first | done | with_reducible rfl | rfl | omega | assumption | (simp; omega)))); (try simp only [Act.put, List.setIfInBounds_toArray, List.set_cons_zero, List.set_cons_succ]))
      refine pl_eff rfl (fun Kp hKp => ?_)
      go_simp
      ((refine (refNumber_spec _ (by omega) (by omega) (by assumption)).mono ?_); rintro e22 w22 ⟨A22, c22, rfl, hs22⟩)
      (try go_wp2_with fail)
      refine hKp.out _ _ ?_
      clear hKp Kp
      (try simp only [Act.put, List.setIfInBounds_toArray, List.set_cons_zero, List.set_cons_succ])
      refine pl_eff rfl (fun Kp hKp => ?_)
      ((with_reducible apply st_append); go_must (assumption; rfl; rfl; (repeat (first | with_reducible exact Out.here _ | apply Out.there)); (repeat (first | with_reducible assumption | with_reducible exact Rd.own | with_reducible exact Rd.nil | with_reducible apply Rd.cons)); (first | exact B8_one _ | exact I8_one _ | (simp [Value.oneCell'])); (first | omega | (simp only [maxLen]; omega)); omega; intro A23 c23 w23 hs23 hc23; (try ((refine hs23.own_elim ?_ ?_); omega; rintro g23 rfl)); try simp only [Nat.zero_add, List.nil_append] at hs23 hc23))
      refine hKp.out _ _ ?_
      clear hKp Kp
      (try simp only [Act.put, List.setIfInBounds_toArray, List.set_cons_zero, List.set_cons_succ])
      refine pl_take (v := ?_) rfl ?_ ?_
      rotate_left
      · (go_simp; first | done | with_reducible rfl | rfl | omega | assumption | (simp; omega))
      (try simp only [Act.put, List.setIfInBounds_toArray, List.set_cons_zero, List.set_cons_succ])
      refine pl_done ?_
      refine hK10.out _ _ ?_
      (try clear hK10 K10)
      refine wk_reg ?_
      iterate 3 (refine pl_take (v := ?_) rfl ?_ ?_; rotate_left; (· (go_simp; first | done | with_reducible rfl | rfl | omega | assumption | (simp; omega))); (try simp only [Act.put, List.setIfInBounds_toArray, List.set_cons_zero, List.set_cons_succ]))
      refine pl_done ?_
      show Code.rounds _ _ _ _ _ _
      rw [rounds_succ]
      refine wk_seq (fun K8 hK8 => ?_)
      refine wk_seq (fun K9 hK9 => ?_)
      refine wk_reg ?_
      refine pl_take (v := ?_) rfl ?_ ?_
      rotate_left
      · (go_simp; first | done | with_reducible rfl | rfl | omega | assumption | (simp; omega))
      (try simp only [Act.put, List.setIfInBounds_toArray, List.set_cons_zero, List.set_cons_succ])
      refine pl_take (v := .bool true) rfl ?_ ?_
      · (go_simp; first | done | with_reducible rfl | rfl | omega | assumption | (simp; omega))
      (try simp only [Act.put, List.setIfInBounds_toArray, List.set_cons_zero, List.set_cons_succ])
      refine pl_done ?_
      refine hK9.out _ _ ?_
      (try clear hK9 K9)
      refine wp_cond_true rfl ?_
      refine wp_skip ?_
      refine hK8.out _ _ ?_
      (try clear hK8 K8)
      refine wk_seq (fun K10 hK10 => ?_)
      refine wp_block ?_
      refine wk_reg ?_
      iterate 5 (refine pl_take (v := ?_) rfl ?_ ?_; rotate_left; (· (first | ((with_reducible apply yl_load); assumption; rfl; (repeat (first | with_reducible assumption | ((with_reducible apply Cl.own); exact rfl) | ((with_reducible apply Cl.blkL); exact rfl) | with_reducible apply Cl.cons)); rfl) | (go_simp; first | done | with_reducible rfl | rfl | omega | assumption | (simp; omega)))); (try simp only [Act.put, List.setIfInBounds_toArray, List.set_cons_zero, List.set_cons_succ]))
      refine pl_eff rfl (fun Kp hKp => ?_)
      go_simp
      ((refine (refNumber_spec _ (by omega) (by omega) (by assumption)).mono ?_); rintro e22 w22 ⟨A22, c22, rfl, hs22⟩)
      (try go_wp2_with fail)
      refine hKp.out _ _ ?_
      clear hKp Kp
      (try simp only [Act.put, List.setIfInBounds_toArray, List.set_cons_zero, List.set_cons_succ])
      refine pl_eff rfl (fun Kp hKp => ?_)
      ((with_reducible apply st_append); go_must (assumption; rfl; rfl; (repeat (first | with_reducible exact Out.here _ | apply Out.there)); (repeat (first | with_reducible assumption | with_reducible exact Rd.own | with_reducible exact Rd.nil | with_reducible apply Rd.cons)); (first | exact B8_one _ | exact I8_one _ | (simp [Value.oneCell'])); (first | omega | (simp only [maxLen]; omega)); omega; intro A23 c23 w23 hs23 hc23; (try ((refine hs23.own_elim ?_ ?_); omega; rintro g23 rfl)); try simp only [Nat.zero_add, List.nil_append] at hs23 hc23))
      refine hKp.out _ _ ?_
      clear hKp Kp
      (try simp only [Act.put, List.setIfInBounds_toArray, List.set_cons_zero, List.set_cons_succ])
      refine pl_take (v := ?_) rfl ?_ ?_
      rotate_left
      · (go_simp; first | done | with_reducible rfl | rfl | omega | assumption | (simp; omega))
      (try simp only [Act.put, List.setIfInBounds_toArray, List.set_cons_zero, List.set_cons_succ])
      refine pl_done ?_
      refine hK10.out _ _ ?_
      (try clear hK10 K10)
      refine wk_reg ?_
      iterate 3 (refine pl_take (v := ?_) rfl ?_ ?_; rotate_left; (· (go_simp; first | done | with_reducible rfl | rfl | omega | assumption | (simp; omega))); (try simp only [Act.put, List.setIfInBounds_toArray, List.set_cons_zero, List.set_cons_succ]))
      refine pl_done ?_
      show Code.rounds _ _ _ _ _ _
      rw [rounds_succ]
      refine wk_seq (fun K8 hK8 => ?_)
      refine wk_seq (fun K9 hK9 => ?_)
      refine wk_reg ?_
      refine pl_take (v := ?_) rfl ?_ ?_
      rotate_left
      · (go_simp; first | done | with_reducible rfl | rfl | omega | assumption | (simp; omega))
      (try simp only [Act.put, List.setIfInBounds_toArray, List.set_cons_zero, List.set_cons_succ])
      refine pl_take (v := .bool false) rfl ?_ ?_
      · (go_simp; first | done | with_reducible rfl | rfl | omega | assumption | (simp; omega))
      (try simp only [Act.put, List.setIfInBounds_toArray, List.set_cons_zero, List.set_cons_succ])
      refine pl_done ?_
      refine hK9.out _ _ ?_
      (try clear hK9 K9)
      refine wp_cond_false rfl ?_
      refine wp_exit ?_
      refine (by assumption : ∀ a' w', Met _ a' w' → _) _ _ ?_
      go_meet
      case rel =>
        obtain rfl : acc = num kd.toNat ++ num fr.toNat ++ num dn.toNat ++ num tm.toNat ++ num na.toNat ++ num nb.toNat ++ num nc.toNat ++ num nd.toNat := by rw [Hacc.out]; simp [catNums]
        simp only [List.length_append, B8_app]
        exact ⟨_, _, rfl, hs23.pick (by (repeat (first | exact Pick.nil _ | exact Pick.tail _ | exact Out.here _ | apply Out.there | apply Pick.cons | apply Pick.drop)))⟩
    case rest =>
      obtain ⟨A1, c1, rfl, hsA⟩ := hcut
      clear hs0 hs1 hs9 hs12 l0 l1 l2 l3 l4 l5 l6 l7 hR
      obtain ⟨zy, hzy⟩ : ∃ zy, zy = yesBytes yes := ⟨_, rfl⟩
      have Hzy := Hid.mk' hzy
      have hzyl : zy.length ≤ 2 := by rw [hzy]; cases yes <;> simp [yes_false, yes_true]
      clear hzy
      refine hK6.out _ _ ?_
      clear hK6 K6
      refine wk_seq (fun K11 hK11 => ?_)
      -- at a cut
      go_cut [4] from 24 to 31 (fun s4 w => ∃ A1 c1, s4 = .slice A1 (acc ++ zy).length c1 ∧ Sat w0 w (own 5 1 A1 c1 (acc ++ zy).length (B8 (acc ++ zy)) :: blk b1 (.cells #[.int .i64 kd, .int .i64 fr, .int .i64 dn, .int .i64 tm, .int .i64 na, .int .i64 nb, .int .i64 nc, .int .i64 nd, .bool yes, .slice A es.length ca, .slice B sv.length cb, .slice C dt.length cc] 26 (0, 0)) :: L))
      case first =>
        cases yes with
        | false =>
          have ez : zy = num 0 := Hzy.out
          subst ez
          refine wk_seq (fun K12 hK12 => ?_)
          refine wk_reg ?_
          refine pl_take (v := ?_) rfl ?_ ?_
          rotate_left
          · (go_simp; first | done | with_reducible rfl | rfl | omega | assumption | (simp; omega))
          (try simp only [Act.put, List.setIfInBounds_toArray, List.set_cons_zero, List.set_cons_succ])
          refine pl_take (v := .bool false) rfl ?_ ?_
          · ((with_reducible apply yl_load); assumption; rfl; (repeat (first | with_reducible assumption | ((with_reducible apply Cl.own); exact rfl) | ((with_reducible apply Cl.blkL); exact rfl) | with_reducible apply Cl.cons)); rfl)
          (try simp only [Act.put, List.setIfInBounds_toArray, List.set_cons_zero, List.set_cons_succ])
          refine pl_done ?_
          refine hK12.out _ _ ?_
          (try clear hK12 K12)
          refine wp_cond_false rfl ?_
          refine wk_reg ?_
          refine pl_take (v := ?_) rfl ?_ ?_
          rotate_left
          · (go_simp; first | done | with_reducible rfl | rfl | omega | assumption | (simp; omega))
          (try simp only [Act.put, List.setIfInBounds_toArray, List.set_cons_zero, List.set_cons_succ])
          refine pl_eff rfl (fun Kp hKp => ?_)
          go_simp
          (refine (refN0 (by assumption)).mono ?_; rintro e30 w30 ⟨A30, c30, rfl, hs30⟩)
          (try go_wp2_with fail)
          refine hKp.out _ _ ?_
          clear hKp Kp
          (try simp only [Act.put, List.setIfInBounds_toArray, List.set_cons_zero, List.set_cons_succ])
          refine pl_eff rfl (fun Kp hKp => ?_)
          ((with_reducible apply st_append); go_must (assumption; rfl; rfl; (repeat (first | with_reducible exact Out.here _ | apply Out.there)); (repeat (first | with_reducible assumption | with_reducible exact Rd.own | with_reducible exact Rd.nil | with_reducible apply Rd.cons)); (first | exact B8_one _ | exact I8_one _ | (simp [Value.oneCell'])); (first | omega | (simp only [maxLen]; omega)); omega; intro A31 c31 w31 hs31 hc31; (try ((refine hs31.own_elim ?_ ?_); omega; rintro g31 rfl)); try simp only [Nat.zero_add, List.nil_append] at hs31 hc31))
          refine hKp.out _ _ ?_
          clear hKp Kp
          (try simp only [Act.put, List.setIfInBounds_toArray, List.set_cons_zero, List.set_cons_succ])
          refine pl_take (v := ?_) rfl ?_ ?_
          rotate_left
          · (go_simp; first | done | with_reducible rfl | rfl | omega | assumption | (simp; omega))
          (try simp only [Act.put, List.setIfInBounds_toArray, List.set_cons_zero, List.set_cons_succ])
          refine pl_done ?_
          refine (by assumption : ∀ a' w', Met _ a' w' → _) _ _ ?_
          go_meet
          case rel =>
            simp only [List.length_append, B8_app]
            exact ⟨_, _, rfl, hs31.pick (by (repeat (first | exact Pick.nil _ | exact Pick.tail _ | exact Out.here _ | apply Out.there | apply Pick.cons | apply Pick.drop)))⟩
        | true =>
          have ez : zy = num 1 := Hzy.out
          subst ez
          refine wk_seq (fun K12 hK12 => ?_)
          refine wk_reg ?_
          refine pl_take (v := ?_) rfl ?_ ?_
          rotate_left
          · (go_simp; first | done | with_reducible rfl | rfl | omega | assumption | (simp; omega))
          (try simp only [Act.put, List.setIfInBounds_toArray, List.set_cons_zero, List.set_cons_succ])
          refine pl_take (v := .bool true) rfl ?_ ?_
          · ((with_reducible apply yl_load); assumption; rfl; (repeat (first | with_reducible assumption | ((with_reducible apply Cl.own); exact rfl) | ((with_reducible apply Cl.blkL); exact rfl) | with_reducible apply Cl.cons)); rfl)
          (try simp only [Act.put, List.setIfInBounds_toArray, List.set_cons_zero, List.set_cons_succ])
          refine pl_done ?_
          refine hK12.out _ _ ?_
          (try clear hK12 K12)
          refine wp_cond_true rfl ?_
          refine wk_reg ?_
          refine pl_take (v := ?_) rfl ?_ ?_
          rotate_left
          · (go_simp; first | done | with_reducible rfl | rfl | omega | assumption | (simp; omega))
          (try simp only [Act.put, List.setIfInBounds_toArray, List.set_cons_zero, List.set_cons_succ])
          refine pl_eff rfl (fun Kp hKp => ?_)
          go_simp
          (refine (refN1 (by assumption)).mono ?_; rintro e27 w27 ⟨A27, c27, rfl, hs27⟩)
          (try go_wp2_with fail)
          refine hKp.out _ _ ?_
          clear hKp Kp
          (try simp only [Act.put, List.setIfInBounds_toArray, List.set_cons_zero, List.set_cons_succ])
          refine pl_eff rfl (fun Kp hKp => ?_)
          ((with_reducible apply st_append); go_must (assumption; rfl; rfl; (repeat (first | with_reducible exact Out.here _ | apply Out.there)); (repeat (first | with_reducible assumption | with_reducible exact Rd.own | with_reducible exact Rd.nil | with_reducible apply Rd.cons)); (first | exact B8_one _ | exact I8_one _ | (simp [Value.oneCell'])); (first | omega | (simp only [maxLen]; omega)); omega; intro A28 c28 w28 hs28 hc28; (try ((refine hs28.own_elim ?_ ?_); omega; rintro g28 rfl)); try simp only [Nat.zero_add, List.nil_append] at hs28 hc28))
          refine hKp.out _ _ ?_
          clear hKp Kp
          (try simp only [Act.put, List.setIfInBounds_toArray, List.set_cons_zero, List.set_cons_succ])
          refine pl_take (v := ?_) rfl ?_ ?_
          rotate_left
          · (go_simp; first | done | with_reducible rfl | rfl | omega | assumption | (simp; omega))
          (try simp only [Act.put, List.setIfInBounds_toArray, List.set_cons_zero, List.set_cons_succ])
          refine pl_done ?_
          refine (by assumption : ∀ a' w', Met _ a' w' → _) _ _ ?_
          go_meet
          case rel =>
            simp only [List.length_append, B8_app]
            exact ⟨_, _, rfl, hs28.pick (by (repeat (first | exact Pick.nil _ | exact Pick.tail _ | exact Out.here _ | apply Out.there | apply Pick.cons | apply Pick.drop)))⟩
      case rest =>
        obtain ⟨A2, c2, rfl, hsB⟩ := hcut
        clear hsA
        obtain ⟨ay, hay⟩ : ∃ ay, ay = acc ++ zy := ⟨_, rfl⟩
        have hayl : ay.length ≤ 70 := by rw [hay, List.length_append]; omega
        have HXc : Hid (X = (ay ++ msgTail ⟨kd, fr, dn, tm, na, nb, nc, nd, yes, es, sv, dt⟩, 0)) := by
          unfold Hid; rw [HXa.out, hay, Hacc.out, Hzy.out]
        rw [← hay] at hsB ⊢
        clear hay
        by_cases k3 : kd = 3
        · subst k3
          obtain ⟨A', ca', vs, he1, hRv, hvl, hel⟩ := hE
          simp only [List.cons.injEq, Value.slice.injEq, and_true, true_and] at he1
          obtain ⟨rfl, rfl⟩ := he1
          have ln := num_len6 es.length (by omega)
          have HXd : Hid (X = (ay ++ (num es.length ++ catEnts es), 0)) := HXc.out
          clear HXc HXa
          refine hK11.out _ _ ?_
          clear hK11 K11
          refine wk_seq (fun K13 hK13 => ?_)
          refine wk_seq (fun K14 hK14 => ?_)
          refine wk_reg ?_
          iterate 2 (refine pl_take (v := ?_) rfl ?_ ?_; rotate_left; (· (first | ((with_reducible apply yl_load); assumption; rfl; (repeat (first | with_reducible assumption | ((with_reducible apply Cl.own); exact rfl) | ((with_reducible apply Cl.blkL); exact rfl) | with_reducible apply Cl.cons)); rfl) | (go_simp; first | done | with_reducible rfl | rfl | omega | assumption | (simp; omega)))); (try simp only [Act.put, List.setIfInBounds_toArray, List.set_cons_zero, List.set_cons_succ]))
          refine pl_take (v := .bool true) rfl ?_ ?_
          · (go_simp; first | done | with_reducible rfl | rfl | omega | assumption | (simp; omega))
          (try simp only [Act.put, List.setIfInBounds_toArray, List.set_cons_zero, List.set_cons_succ])
          refine pl_done ?_
          refine hK14.out _ _ ?_
          (try clear hK14 K14)
          refine wp_cond_true rfl ?_
          refine wk_seq (fun K15 hK15 => ?_)
          refine wk_reg ?_
          iterate 4 (refine pl_take (v := ?_) rfl ?_ ?_; rotate_left; (· (first | ((with_reducible apply yl_load); assumption; rfl; (repeat (first | with_reducible assumption | ((with_reducible apply Cl.own); exact rfl) | ((with_reducible apply Cl.blkL); exact rfl) | with_reducible apply Cl.cons)); rfl) | (go_simp; first | done | with_reducible rfl | rfl | omega | assumption | (simp; omega)))); (try simp only [Act.put, List.setIfInBounds_toArray, List.set_cons_zero, List.set_cons_succ]))
          refine pl_eff rfl (fun Kp hKp => ?_)
          go_simp
          (refine (refNumber_spec (es.length : Int) (by omega) (by omega) (by assumption)).mono ?_; rintro e39 w39 ⟨A39, c39, rfl, hs39⟩; simp only [Int.toNat_natCast] at hs39 ⊢)
          (try go_wp2_with fail)
          refine hKp.out _ _ ?_
          clear hKp Kp
          (try simp only [Act.put, List.setIfInBounds_toArray, List.set_cons_zero, List.set_cons_succ])
          refine pl_eff rfl (fun Kp hKp => ?_)
          ((with_reducible apply st_append); go_must (assumption; rfl; rfl; (repeat (first | with_reducible exact Out.here _ | apply Out.there)); (repeat (first | with_reducible assumption | with_reducible exact Rd.own | with_reducible exact Rd.nil | with_reducible apply Rd.cons)); (first | exact B8_one _ | exact I8_one _ | (simp [Value.oneCell'])); (first | omega | (simp only [maxLen]; omega)); omega; intro A40 c40 w40 hs40 hc40; (try ((refine hs40.own_elim ?_ ?_); omega; rintro g40 rfl)); try simp only [Nat.zero_add, List.nil_append] at hs40 hc40))
          refine hKp.out _ _ ?_
          clear hKp Kp
          (try simp only [Act.put, List.setIfInBounds_toArray, List.set_cons_zero, List.set_cons_succ])
          refine pl_take (v := ?_) rfl ?_ ?_
          rotate_left
          · (go_simp; first | done | with_reducible rfl | rfl | omega | assumption | (simp; omega))
          (try simp only [Act.put, List.setIfInBounds_toArray, List.set_cons_zero, List.set_cons_succ])
          refine pl_done ?_
          refine hK15.out _ _ ?_
          (try clear hK15 K15)
          refine wk_seq (fun K16 hK16 => ?_)
          refine wk_reg ?_
          refine pl_take (v := ?_) rfl ?_ ?_
          rotate_left
          · (go_simp; first | done | with_reducible rfl | rfl | omega | assumption | (simp; omega))
          (try simp only [Act.put, List.setIfInBounds_toArray, List.set_cons_zero, List.set_cons_succ])
          refine pl_done ?_
          refine hK16.out _ _ ?_
          (try clear hK16 K16)
          refine wp_block ?_
          -- at a loop
          go_loopw [4, 7] (fun v i wr => ∃ (k : Nat) (bc : List UInt8) (A2 : Option Addr) (c2 : Nat), i = .int .i64 k ∧ k ≤ es.length ∧ bc.length ≤ 200 + 5000 * k ∧ Hid (bc = ay ++ (num es.length ++ catEnts (es.take k))) ∧ v = .slice A2 bc.length c2 ∧ Sat w0 wr (own 5 1 A2 c2 bc.length (B8 bc) :: blk b1 (.cells #[.int .i64 3, .int .i64 fr, .int .i64 dn, .int .i64 tm, .int .i64 na, .int .i64 nb, .int .i64 nc, .int .i64 nd, .bool yes, .slice A es.length ca, .slice B sv.length cb, .slice C dt.length cc] 26 (0, 0)) :: L)) (fun _ i _ => es.length - (intOf i).toNat)
          case atStart => exact ⟨0, ay ++ num es.length, _, _, rfl, Nat.zero_le _, by simp only [List.length_append]; omega, by unfold Hid; simp [catEnts], by rw [List.length_append], (by assumption : Sat w0 _ _).pick (by simp only [List.length_append, B8_app]; (repeat (first | exact Pick.nil _ | exact Pick.tail _ | exact Out.here _ | apply Out.there | apply Pick.cons | apply Pick.drop)))⟩
          case round =>
            obtain ⟨k, bc, A2, c2, rfl, hk, hbl, Hbc, rfl, hsC⟩ := hrel
            clear hsB hs39 hs40
            by_cases hlt : k < es.length
            · obtain ⟨x, hx⟩ : ∃ x, es[k]? = some x := ⟨es[k], List.getElem?_eq_getElem hlt⟩
              obtain ⟨⟨Ax, cx, ex, hrx⟩, _⟩ := hel k x hx
              obtain ⟨ga, oa, rfl⟩ := hRv.some_of hs (by omega)
              have hrow := hRv.row_at k hlt
              rw [ex] at hrow
              have hr : rightE x = true := (List.all_eq_true.1 Hall.out) x (List.mem_of_getElem? hx)
              obtain ⟨t, i, q, d⟩ := x
              simp only at hrow hrx
              have i0 : (0 : Int) ≤ (k : Int) := by omega
              have i1 : (k : Int) < (es.length : Int) := by omega
              have hwk : IntKind.i64.wrap ((k : Int) + 1) = (k : Int) + 1 := IntWalk.i64_in _ (by omega)
              have hzl := entBytes_len hr
              obtain ⟨ze, hze⟩ : ∃ ze, ze = entBytes ⟨t, i, q, d⟩ := ⟨_, rfl⟩
              rw [← hze] at hzl
              have hEB : ∀ {w : World} {L : List HP}, Sat w0 w L → Rd w0 L Ax d.length 1 (B8 d) → Calls Try.prog 34 #[.agg #[.int .i64 t, .int .i64 i, .int .i64 q, .slice Ax d.length cx]] w (RetS w0 L ze) := fun hs hR => by
                rw [hze]; exact entryBytes_spec (c := cx) ⟨t, i, q, d⟩ hr hs hR
              have htl := text_len (l := ze) (by omega)
              have Hs1 : Hid (catEnts (es.take (k + 1)) = catEnts (es.take k) ++ text ze) := by rw [hze]; exact catEnts_succ hx
              clear hx ex hel hr hze HXd
              refine wk_seq (fun K17 hK17 => ?_)
              refine wk_seq (fun K18 hK18 => ?_)
              refine wk_reg ?_
              iterate 4 (refine pl_take (v := ?_) rfl ?_ ?_; rotate_left; (· (first | ((with_reducible apply yl_load); assumption; rfl; (repeat (first | with_reducible assumption | ((with_reducible apply Cl.own); exact rfl) | ((with_reducible apply Cl.blkL); exact rfl) | with_reducible apply Cl.cons)); rfl) | (go_simp; first | done | with_reducible rfl | rfl | omega | assumption | (simp; omega)))); (try simp only [Act.put, List.setIfInBounds_toArray, List.set_cons_zero, List.set_cons_succ]))
              refine pl_take (v := .bool true) rfl ?_ ?_
              · (go_simp; first | done | with_reducible rfl | rfl | omega | assumption | (simp; omega))
              (try simp only [Act.put, List.setIfInBounds_toArray, List.set_cons_zero, List.set_cons_succ])
              refine pl_done ?_
              refine hK18.out _ _ ?_
              (try clear hK18 K18)
              refine wp_cond_true rfl ?_
              refine wp_skip ?_
              refine hK17.out _ _ ?_
              (try clear hK17 K17)
              refine wk_seq (fun K19 hK19 => ?_)
              refine wp_block ?_
              refine wk_reg ?_
              iterate 6 (refine pl_take (v := ?_) rfl ?_ ?_; rotate_left; (· (first | ((with_reducible apply yl_load); assumption; rfl; (repeat (first | with_reducible assumption | ((with_reducible apply Cl.own); exact rfl) | ((with_reducible apply Cl.blkL); exact rfl) | with_reducible apply Cl.cons)); rfl) | (first | ((with_reducible apply yl_loadAgg); assumption; rfl; (repeat (first | with_reducible exact Out.here _ | apply Out.there)); (simp); rfl; rfl) | ((with_reducible apply yl_loadAggR); assumption; rfl; (repeat (first | with_reducible assumption | with_reducible exact Rd.own | with_reducible exact Rd.nil | with_reducible apply Rd.cons)); rfl)) | (go_simp; first | done | with_reducible rfl | rfl | omega | assumption | (simp; omega)))); (try simp only [Act.put, List.setIfInBounds_toArray, List.set_cons_zero, List.set_cons_succ]))
              refine pl_eff rfl (fun Kp hKp => ?_)
              go_simp
              (refine (hEB (by assumption) (by (repeat (first | with_reducible assumption | with_reducible exact Rd.own | with_reducible exact Rd.nil | with_reducible apply Rd.cons)))).mono ?_; rintro e54 w54 ⟨A54, c54, rfl, hs54⟩)
              (try go_wp2_with fail)
              refine hKp.out _ _ ?_
              clear hKp Kp
              (try simp only [Act.put, List.setIfInBounds_toArray, List.set_cons_zero, List.set_cons_succ])
              refine pl_eff rfl (fun Kp hKp => ?_)
              go_simp
              ((refine (refText_spec _ (by omega) (by assumption) (by (repeat (first | with_reducible assumption | with_reducible exact Rd.own | with_reducible exact Rd.nil | with_reducible apply Rd.cons)))).mono ?_); rintro e55 w55 ⟨A55, c55, rfl, hs55⟩)
              (try go_wp2_with fail)
              refine hKp.out _ _ ?_
              clear hKp Kp
              (try simp only [Act.put, List.setIfInBounds_toArray, List.set_cons_zero, List.set_cons_succ])
              refine pl_eff rfl (fun Kp hKp => ?_)
              ((with_reducible apply st_append); go_must (assumption; rfl; rfl; (repeat (first | with_reducible exact Out.here _ | apply Out.there)); (repeat (first | with_reducible assumption | with_reducible exact Rd.own | with_reducible exact Rd.nil | with_reducible apply Rd.cons)); (first | exact B8_one _ | exact I8_one _ | (simp [Value.oneCell'])); (first | omega | (simp only [maxLen]; omega)); omega; intro A56 c56 w56 hs56 hc56; (try ((refine hs56.own_elim ?_ ?_); omega; rintro g56 rfl)); try simp only [Nat.zero_add, List.nil_append] at hs56 hc56))
              refine hKp.out _ _ ?_
              clear hKp Kp
              (try simp only [Act.put, List.setIfInBounds_toArray, List.set_cons_zero, List.set_cons_succ])
              refine pl_take (v := ?_) rfl ?_ ?_
              rotate_left
              · (go_simp; first | done | with_reducible rfl | rfl | omega | assumption | (simp; omega))
              (try simp only [Act.put, List.setIfInBounds_toArray, List.set_cons_zero, List.set_cons_succ])
              refine pl_done ?_
              refine hK19.out _ _ ?_
              (try clear hK19 K19)
              refine wk_reg ?_
              iterate 3 (refine pl_take (v := ?_) rfl ?_ ?_; rotate_left; (· (go_simp; first | done | with_reducible rfl | rfl | omega | assumption | (simp; omega))); (try simp only [Act.put, List.setIfInBounds_toArray, List.set_cons_zero, List.set_cons_succ]))
              refine pl_done ?_
              dsimp only [Exit.then]
              go_roundw
              case rel => exact ⟨k + 1, bc ++ text ze, _, _, by go_num, by omega, by simp only [List.length_append]; omega, by unfold Hid; rw [Hs1.out, Hbc.out]; simp only [List.append_assoc], by rw [List.length_append], hs56.pick (by simp only [List.length_append, B8_app]; (repeat (first | exact Pick.nil _ | exact Pick.tail _ | exact Out.here _ | apply Out.there | apply Pick.cons | apply Pick.drop)))⟩
              case measure => simp [intOf]; omega
            · obtain rfl : k = es.length := by omega
              obtain rfl : X = (bc, 0) := by rw [HXd.out, Hbc.out, List.take_length]
              clear HXd hel
              refine wk_seq (fun K17 hK17 => ?_)
              refine wk_seq (fun K18 hK18 => ?_)
              refine wk_reg ?_
              iterate 4 (refine pl_take (v := ?_) rfl ?_ ?_; rotate_left; (· (first | ((with_reducible apply yl_load); assumption; rfl; (repeat (first | with_reducible assumption | ((with_reducible apply Cl.own); exact rfl) | ((with_reducible apply Cl.blkL); exact rfl) | with_reducible apply Cl.cons)); rfl) | (go_simp; first | done | with_reducible rfl | rfl | omega | assumption | (simp; omega)))); (try simp only [Act.put, List.setIfInBounds_toArray, List.set_cons_zero, List.set_cons_succ]))
              refine pl_take (v := .bool false) rfl ?_ ?_
              · (go_simp; first | done | with_reducible rfl | rfl | omega | assumption | (simp; omega))
              (try simp only [Act.put, List.setIfInBounds_toArray, List.set_cons_zero, List.set_cons_succ])
              refine pl_done ?_
              refine hK18.out _ _ ?_
              (try clear hK18 K18)
              refine wp_cond_false rfl ?_
              refine wp_exit ?_
              refine hK13.out _ _ ?_
              (try clear hK13 K13)
              refine wk_seq (fun K20 hK20 => ?_)
              refine wk_seq (fun K21 hK21 => ?_)
              refine wk_reg ?_
              iterate 2 (refine pl_take (v := ?_) rfl ?_ ?_; rotate_left; (· (first | ((with_reducible apply yl_load); assumption; rfl; (repeat (first | with_reducible assumption | ((with_reducible apply Cl.own); exact rfl) | ((with_reducible apply Cl.blkL); exact rfl) | with_reducible apply Cl.cons)); rfl) | (go_simp; first | done | with_reducible rfl | rfl | omega | assumption | (simp; omega)))); (try simp only [Act.put, List.setIfInBounds_toArray, List.set_cons_zero, List.set_cons_succ]))
              refine pl_take (v := .bool false) rfl ?_ ?_
              · (go_simp; first | done | with_reducible rfl | rfl | omega | assumption | (simp; omega))
              (try simp only [Act.put, List.setIfInBounds_toArray, List.set_cons_zero, List.set_cons_succ])
              refine pl_done ?_
              refine hK21.out _ _ ?_
              (try clear hK21 K21)
              refine wp_cond_false rfl ?_
              refine wp_skip ?_
              refine hK20.out _ _ ?_
              (try clear hK20 K20)
              refine wk_seq (fun K23 hK23 => ?_)
              refine wk_reg ?_
              iterate 3 (refine pl_take (v := ?_) rfl ?_ ?_; rotate_left; (· (go_simp; first | done | with_reducible rfl | rfl | omega | assumption | (simp; omega))); (try simp only [Act.put, List.setIfInBounds_toArray, List.set_cons_zero, List.set_cons_succ]))
              refine pl_done ?_
              refine hK23.out _ _ ?_
              (try clear hK23 K23)
              refine wp_ret ?_
              go_ret2
              exact RetT.mk hsC (by (repeat (first | exact Pick.nil _ | exact Pick.tail _ | exact Out.here _ | apply Out.there | apply Pick.cons | apply Pick.drop))) rfl rfl rfl
        · have k3' : (kd == 3) = false := by simp [k3]
          by_cases k5 : kd = 5
          · have k5' : (kd == 5) = true := by simp [k5]
            obtain ⟨z, hz⟩ : ∃ z, z = srvBytes sv := ⟨_, rfl⟩
            have hzl : z.length ≤ 64 := by rw [hz]; exact srvBytes_len (H5s.out k5)
            have hSB : ∀ {w : World} {L : List HP}, Sat w0 w L → Rd w0 L B sv.length 1 (I8 sv) → Calls Try.prog 35 #[.slice B sv.length cb] w (RetS w0 L z) := fun hs hR => by
              rw [hz]; exact serversBytes_spec sv rfl (H5s.out k5) hs hR
            have t1 := text_len (l := z) (by omega)
            have t2 := text_len (l := dt) (by omega)
            obtain rfl : X = (ay ++ (text z ++ text dt), 0) := by rw [HXc.out, hz]; simp only [msgTail, if_neg k3, if_pos k5]
            clear hz HXc HXa H5s k5
            refine hK11.out _ _ ?_
            clear hK11 K11
            refine wk_seq (fun K13 hK13 => ?_)
            refine wk_seq (fun K14 hK14 => ?_)
            refine wk_reg ?_
            iterate 2 (refine pl_take (v := ?_) rfl ?_ ?_; rotate_left; (· (first | ((with_reducible apply yl_load); assumption; rfl; (repeat (first | with_reducible assumption | ((with_reducible apply Cl.own); exact rfl) | ((with_reducible apply Cl.blkL); exact rfl) | with_reducible apply Cl.cons)); rfl) | (go_simp; first | done | with_reducible rfl | rfl | omega | assumption | (simp; omega)))); (try simp only [Act.put, List.setIfInBounds_toArray, List.set_cons_zero, List.set_cons_succ]))
            refine pl_take (v := .bool false) rfl ?_ ?_
            · (go_simp; first | done | with_reducible rfl | rfl | omega | assumption | (simp; omega))
            (try simp only [Act.put, List.setIfInBounds_toArray, List.set_cons_zero, List.set_cons_succ])
            refine pl_done ?_
            refine hK14.out _ _ ?_
            (try clear hK14 K14)
            refine wp_cond_false rfl ?_
            refine wp_skip ?_
            refine hK13.out _ _ ?_
            (try clear hK13 K13)
            refine wk_seq (fun K20 hK20 => ?_)
            refine wk_seq (fun K21 hK21 => ?_)
            refine wk_reg ?_
            iterate 2 (refine pl_take (v := ?_) rfl ?_ ?_; rotate_left; (· (first | ((with_reducible apply yl_load); assumption; rfl; (repeat (first | with_reducible assumption | ((with_reducible apply Cl.own); exact rfl) | ((with_reducible apply Cl.blkL); exact rfl) | with_reducible apply Cl.cons)); rfl) | (go_simp; first | done | with_reducible rfl | rfl | omega | assumption | (simp; omega)))); (try simp only [Act.put, List.setIfInBounds_toArray, List.set_cons_zero, List.set_cons_succ]))
            refine pl_take (v := .bool true) rfl ?_ ?_
            · (go_simp; first | done | with_reducible rfl | rfl | omega | assumption | (simp; omega))
            (try simp only [Act.put, List.setIfInBounds_toArray, List.set_cons_zero, List.set_cons_succ])
            refine pl_done ?_
            refine hK21.out _ _ ?_
            (try clear hK21 K21)
            refine wp_cond_true rfl ?_
            refine wk_seq (fun K22 hK22 => ?_)
            refine wk_reg ?_
            iterate 3 (refine pl_take (v := ?_) rfl ?_ ?_; rotate_left; (· (first | ((with_reducible apply yl_load); assumption; rfl; (repeat (first | with_reducible assumption | ((with_reducible apply Cl.own); exact rfl) | ((with_reducible apply Cl.blkL); exact rfl) | with_reducible apply Cl.cons)); rfl) | (go_simp; first | done | with_reducible rfl | rfl | omega | assumption | (simp; omega)))); (try simp only [Act.put, List.setIfInBounds_toArray, List.set_cons_zero, List.set_cons_succ]))
            refine pl_eff rfl (fun Kp hKp => ?_)
            go_simp
            (refine (hSB (by assumption) (by (repeat (first | with_reducible assumption | with_reducible exact Rd.own | with_reducible exact Rd.nil | with_reducible apply Rd.cons)))).mono ?_; rintro e63 w63 ⟨A63, c63, rfl, hs63⟩)
            (try go_wp2_with fail)
            refine hKp.out _ _ ?_
            clear hKp Kp
            (try simp only [Act.put, List.setIfInBounds_toArray, List.set_cons_zero, List.set_cons_succ])
            refine pl_eff rfl (fun Kp hKp => ?_)
            go_simp
            ((refine (refText_spec _ (by omega) (by assumption) (by (repeat (first | with_reducible assumption | with_reducible exact Rd.own | with_reducible exact Rd.nil | with_reducible apply Rd.cons)))).mono ?_); rintro e64 w64 ⟨A64, c64, rfl, hs64⟩)
            (try go_wp2_with fail)
            refine hKp.out _ _ ?_
            clear hKp Kp
            (try simp only [Act.put, List.setIfInBounds_toArray, List.set_cons_zero, List.set_cons_succ])
            refine pl_eff rfl (fun Kp hKp => ?_)
            ((with_reducible apply st_append); go_must (assumption; rfl; rfl; (repeat (first | with_reducible exact Out.here _ | apply Out.there)); (repeat (first | with_reducible assumption | with_reducible exact Rd.own | with_reducible exact Rd.nil | with_reducible apply Rd.cons)); (first | exact B8_one _ | exact I8_one _ | (simp [Value.oneCell'])); (first | omega | (simp only [maxLen]; omega)); omega; intro A65 c65 w65 hs65 hc65; (try ((refine hs65.own_elim ?_ ?_); omega; rintro g65 rfl)); try simp only [Nat.zero_add, List.nil_append] at hs65 hc65))
            refine hKp.out _ _ ?_
            clear hKp Kp
            (try simp only [Act.put, List.setIfInBounds_toArray, List.set_cons_zero, List.set_cons_succ])
            refine pl_take (v := ?_) rfl ?_ ?_
            rotate_left
            · (go_simp; first | done | with_reducible rfl | rfl | omega | assumption | (simp; omega))
            (try simp only [Act.put, List.setIfInBounds_toArray, List.set_cons_zero, List.set_cons_succ])
            refine pl_done ?_
            refine hK22.out _ _ ?_
            (try clear hK22 K22)
            refine wk_reg ?_
            iterate 3 (refine pl_take (v := ?_) rfl ?_ ?_; rotate_left; (· (first | ((with_reducible apply yl_load); assumption; rfl; (repeat (first | with_reducible assumption | ((with_reducible apply Cl.own); exact rfl) | ((with_reducible apply Cl.blkL); exact rfl) | with_reducible apply Cl.cons)); rfl) | (go_simp; first | done | with_reducible rfl | rfl | omega | assumption | (simp; omega)))); (try simp only [Act.put, List.setIfInBounds_toArray, List.set_cons_zero, List.set_cons_succ]))
            refine pl_eff rfl (fun Kp hKp => ?_)
            go_simp
            ((refine (refText_spec _ (by omega) (by assumption) (by (repeat (first | with_reducible assumption | with_reducible exact Rd.own | with_reducible exact Rd.nil | with_reducible apply Rd.cons)))).mono ?_); rintro e69 w69 ⟨A69, c69, rfl, hs69⟩)
            (try go_wp2_with fail)
            refine hKp.out _ _ ?_
            clear hKp Kp
            (try simp only [Act.put, List.setIfInBounds_toArray, List.set_cons_zero, List.set_cons_succ])
            refine pl_eff rfl (fun Kp hKp => ?_)
            ((with_reducible apply st_append); go_must (assumption; rfl; rfl; (repeat (first | with_reducible exact Out.here _ | apply Out.there)); (repeat (first | with_reducible assumption | with_reducible exact Rd.own | with_reducible exact Rd.nil | with_reducible apply Rd.cons)); (first | exact B8_one _ | exact I8_one _ | (simp [Value.oneCell'])); (first | omega | (simp only [maxLen]; omega)); omega; intro A70 c70 w70 hs70 hc70; (try ((refine hs70.own_elim ?_ ?_); omega; rintro g70 rfl)); try simp only [Nat.zero_add, List.nil_append] at hs70 hc70))
            refine hKp.out _ _ ?_
            clear hKp Kp
            (try simp only [Act.put, List.setIfInBounds_toArray, List.set_cons_zero, List.set_cons_succ])
            refine pl_take (v := ?_) rfl ?_ ?_
            rotate_left
            · (go_simp; first | done | with_reducible rfl | rfl | omega | assumption | (simp; omega))
            (try simp only [Act.put, List.setIfInBounds_toArray, List.set_cons_zero, List.set_cons_succ])
            refine pl_done ?_
            refine hK20.out _ _ ?_
            (try clear hK20 K20)
            refine wk_seq (fun K23 hK23 => ?_)
            refine wk_reg ?_
            iterate 3 (refine pl_take (v := ?_) rfl ?_ ?_; rotate_left; (· (go_simp; first | done | with_reducible rfl | rfl | omega | assumption | (simp; omega))); (try simp only [Act.put, List.setIfInBounds_toArray, List.set_cons_zero, List.set_cons_succ]))
            refine pl_done ?_
            refine hK23.out _ _ ?_
            (try clear hK23 K23)
            refine wp_ret ?_
            go_ret2
            exact RetT.mk hs70 (by (repeat (first | exact Pick.nil _ | exact Pick.tail _ | exact Out.here _ | apply Out.there | apply Pick.cons | apply Pick.drop))) (by simp [B8_app]) (by simp; omega) rfl
          · have k5' : (kd == 5) = false := by simp [k5]
            obtain rfl : X = (ay, 0) := by rw [HXc.out]; simp only [msgTail, if_neg k3, if_neg k5, List.append_nil]
            clear HXc HXa
            refine hK11.out _ _ ?_
            clear hK11 K11
            refine wk_seq (fun K13 hK13 => ?_)
            refine wk_seq (fun K14 hK14 => ?_)
            refine wk_reg ?_
            iterate 2 (refine pl_take (v := ?_) rfl ?_ ?_; rotate_left; (· (first | ((with_reducible apply yl_load); assumption; rfl; (repeat (first | with_reducible assumption | ((with_reducible apply Cl.own); exact rfl) | ((with_reducible apply Cl.blkL); exact rfl) | with_reducible apply Cl.cons)); rfl) | (go_simp; first | done | with_reducible rfl | rfl | omega | assumption | (simp; omega)))); (try simp only [Act.put, List.setIfInBounds_toArray, List.set_cons_zero, List.set_cons_succ]))
            refine pl_take (v := .bool false) rfl ?_ ?_
            · (go_simp; first | done | with_reducible rfl | rfl | omega | assumption | (simp; omega))
            (try simp only [Act.put, List.setIfInBounds_toArray, List.set_cons_zero, List.set_cons_succ])
            refine pl_done ?_
            refine hK14.out _ _ ?_
            (try clear hK14 K14)
            refine wp_cond_false rfl ?_
            refine wp_skip ?_
            refine hK13.out _ _ ?_
            (try clear hK13 K13)
            refine wk_seq (fun K20 hK20 => ?_)
            refine wk_seq (fun K21 hK21 => ?_)
            refine wk_reg ?_
            iterate 2 (refine pl_take (v := ?_) rfl ?_ ?_; rotate_left; (· (first | ((with_reducible apply yl_load); assumption; rfl; (repeat (first | with_reducible assumption | ((with_reducible apply Cl.own); exact rfl) | ((with_reducible apply Cl.blkL); exact rfl) | with_reducible apply Cl.cons)); rfl) | (go_simp; first | done | with_reducible rfl | rfl | omega | assumption | (simp; omega)))); (try simp only [Act.put, List.setIfInBounds_toArray, List.set_cons_zero, List.set_cons_succ]))
            refine pl_take (v := .bool false) rfl ?_ ?_
            · (go_simp; first | done | with_reducible rfl | rfl | omega | assumption | (simp; omega))
            (try simp only [Act.put, List.setIfInBounds_toArray, List.set_cons_zero, List.set_cons_succ])
            refine pl_done ?_
            refine hK21.out _ _ ?_
            (try clear hK21 K21)
            refine wp_cond_false rfl ?_
            refine wp_skip ?_
            refine hK20.out _ _ ?_
            (try clear hK20 K20)
            refine wk_seq (fun K23 hK23 => ?_)
            refine wk_reg ?_
            iterate 3 (refine pl_take (v := ?_) rfl ?_ ?_; rotate_left; (· (go_simp; first | done | with_reducible rfl | rfl | omega | assumption | (simp; omega))); (try simp only [Act.put, List.setIfInBounds_toArray, List.set_cons_zero, List.set_cons_succ]))
            refine pl_done ?_
            refine hK23.out _ _ ?_
            (try clear hK23 K23)
            refine wp_ret ?_
            go_ret2
            exact RetT.mk hsB (by (repeat (first | exact Pick.nil _ | exact Pick.tail _ | exact Out.here _ | apply Out.there | apply Pick.cons | apply Pick.drop))) rfl rfl rfl
end Go.Proofs.Ytcedbmcnjckajaa
