/-
  Commands of the machine: the document's; MachineCommands: the walk.
-/
import Derived.Test.YtdlimjcidblneaaMc8
namespace Go.Proofs.Ytdlimjcidblneaa
open Go Go.RowKit Sl Go.Shelf
set_option maxHeartbeats 20000000
set_option maxRecDepth 8000


theorem openR_spec {w0 w : World} {L : List HP} (hs : Sat w0 w L) : Calls Try.prog 23 #[] w (RetS w0 L cOpen) := by
  go_enter Try.func23, Try.ntmps23
  refine wk_seq (fun K0 hK0 => ?_)
  refine wk_reg ?_
  refine pl_take (v := ?_) rfl ?_ ?_
  rotate_left
  · (go_simp; first | done | with_reducible rfl | rfl | omega | assumption | (simp; omega))
  (try simp only [Act.put, aP, aZ])
  refine pl_done ?_
  refine hK0.out _ _ ?_
  (try clear hK0 K0)
  refine wk_seq (fun K1 hK1 => ?_)
  refine wk_reg ?_
  refine pl_eff rfl (fun Kp hKp => ?_)
  go_simp
  (refine (refNumber_spec 1 (by omega) (by omega) (by assumption)).mono ?_; rintro e1 w1 ⟨B1, c1, rfl, hs1⟩)
  (try go_wp2_with fail)
  refine hKp.out _ _ ?_
  clear hKp Kp
  (try simp only [Act.put, aP, aZ, aS])
  refine pl_take (v := ?_) rfl ?_ ?_
  rotate_left
  · (go_simp; first | done | with_reducible rfl | rfl | omega | assumption | (simp; omega))
  (try simp only [Act.put, aP, aZ])
  refine pl_done ?_
  refine hK1.out _ _ ?_
  (try clear hK1 K1)
  refine wp_ret ?_
  go_ret
  exact ⟨B1, c1, rfl, (by assumption : Sat w0 _ _).pick (by (repeat (first | exact Pick.nil _ | exact Pick.tail _ | exact Out.here _ | apply Out.there | apply Pick.cons | apply Pick.drop)))⟩

theorem trimR_spec {w0 w : World} {L : List HP} (t : Int) (hs : Sat w0 w L) : Calls Try.prog 22 #[.int .i64 t] w (RetT w0 L (trimC t)) := by
  by_cases h1 : t < 0
  · rw [show trimC t = ([], 1) from by unfold trimC; rw [if_pos (.inl h1)]]
    go_enter Try.func22, Try.ntmps22
    refine wk_seq (fun K0 hK0 => ?_)
    refine wk_reg ?_
    iterate 2 (refine pl_take (v := ?_) rfl ?_ ?_; rotate_left; (· (go_simp; first | done | with_reducible rfl | rfl | omega | assumption | (simp; omega))); (try simp only [Act.put, aP, aZ, aS]))
    refine pl_done ?_
    refine hK0.out _ _ ?_
    (try clear hK0 K0)
    refine wk_seq (fun K1 hK1 => ?_)
    refine wk_seq (fun K2 hK2 => ?_)
    refine wk_reg ?_
    refine pl_take (v := ?_) rfl ?_ ?_
    rotate_left
    · (go_simp; first | done | with_reducible rfl | rfl | omega | assumption | (simp; omega))
    (try simp only [Act.put, aP, aZ, aS])
    iterate 2 (refine pl_take (v := .bool true) rfl ?_ ?_; (· (go_simp; first | done | with_reducible rfl | rfl | omega | assumption | (simp; omega))); (try simp only [Act.put, aP, aZ, aS]))
    iterate 2 (refine pl_skip (by kernel_rfl) ?_; (try simp only [Act.put, aP, aZ, aS]))
    refine pl_take (v := .bool true) rfl ?_ ?_
    · (go_simp; first | done | with_reducible rfl | rfl | omega | assumption | (simp; omega))
    (try simp only [Act.put, aP, aZ, aS])
    refine pl_done ?_
    refine hK2.out _ _ ?_
    (try clear hK2 K2)
    refine wp_cond_true rfl ?_
    refine wk_seq (fun K3 hK3 => ?_)
    refine wk_reg ?_
    iterate 2 (refine pl_take (v := ?_) rfl ?_ ?_; rotate_left; (· (go_simp; first | done | with_reducible rfl | rfl | omega | assumption | (simp; omega))); (try simp only [Act.put, aP, aZ, aS]))
    refine pl_done ?_
    refine hK3.out _ _ ?_
    (try clear hK3 K3)
    refine wp_ret ?_
    go_ret2
    exact ⟨none, 0, rfl, ((by assumption : Sat w0 w L).own_nil 5 1).pick (by (repeat (first | exact Pick.nil _ | exact Pick.tail _ | exact Out.here _ | apply Out.there | apply Pick.cons | apply Pick.drop)))⟩
  · by_cases h2 : 1099511627776 ≤ t
    · rw [show trimC t = ([], 1) from by unfold trimC; rw [if_pos (.inr h2)]]
      go_enter Try.func22, Try.ntmps22
      refine wk_seq (fun K0 hK0 => ?_)
      refine wk_reg ?_
      iterate 2 (refine pl_take (v := ?_) rfl ?_ ?_; rotate_left; (· (go_simp; first | done | with_reducible rfl | rfl | omega | assumption | (simp; omega))); (try simp only [Act.put, aP, aZ, aS]))
      refine pl_done ?_
      refine hK0.out _ _ ?_
      (try clear hK0 K0)
      refine wk_seq (fun K1 hK1 => ?_)
      refine wk_seq (fun K2 hK2 => ?_)
      refine wk_reg ?_
      refine pl_take (v := ?_) rfl ?_ ?_
      rotate_left
      · (go_simp; first | done | with_reducible rfl | rfl | omega | assumption | (simp; omega))
      (try simp only [Act.put, aP, aZ, aS])
      iterate 2 (refine pl_take (v := .bool false) rfl ?_ ?_; (· (go_simp; first | done | with_reducible rfl | rfl | omega | assumption | (simp; omega))); (try simp only [Act.put, aP, aZ, aS]))
      refine pl_take (v := ?_) (by kernel_rfl) ?_ ?_
      rotate_left
      · (go_simp; first | done | with_reducible rfl | rfl | omega | assumption | (simp; omega))
      (try simp only [Act.put, aP, aZ, aS])
      refine pl_take (v := .bool true) (by kernel_rfl) ?_ ?_
      · (go_simp; first | done | with_reducible rfl | rfl | omega | assumption | (simp; omega))
      (try simp only [Act.put, aP, aZ, aS])
      refine pl_take (v := .bool true) rfl ?_ ?_
      · (go_simp; first | done | with_reducible rfl | rfl | omega | assumption | (simp; omega))
      (try simp only [Act.put, aP, aZ, aS])
      refine pl_done ?_
      refine hK2.out _ _ ?_
      (try clear hK2 K2)
      refine wp_cond_true rfl ?_
      refine wk_seq (fun K3 hK3 => ?_)
      refine wk_reg ?_
      iterate 2 (refine pl_take (v := ?_) rfl ?_ ?_; rotate_left; (· (go_simp; first | done | with_reducible rfl | rfl | omega | assumption | (simp; omega))); (try simp only [Act.put, aP, aZ, aS]))
      refine pl_done ?_
      refine hK3.out _ _ ?_
      (try clear hK3 K3)
      refine wp_ret ?_
      go_ret2
      exact ⟨none, 0, rfl, ((by assumption : Sat w0 w L).own_nil 5 1).pick (by (repeat (first | exact Pick.nil _ | exact Pick.tail _ | exact Out.here _ | apply Out.there | apply Pick.cons | apply Pick.drop)))⟩
    · rw [show trimC t = (cTrim t, 0) from by unfold trimC; rw [if_neg (by omega)]]
      have hN3 := fun (w : World) (L' : List HP) (hs : Sat w0 w L') => refNumber_spec 3 (by omega) (by omega) hs
      have hNt := fun (w : World) (L' : List HP) (hs : Sat w0 w L') => refNumber_spec t (by omega) (by omega) hs
      have hl3 := num_len 3 (by omega)
      have hlt := num_len t.toNat (by omega)
      obtain ⟨X, hX⟩ : ∃ X, num (3 : Int).toNat = X := ⟨_, rfl⟩
      obtain ⟨Y, hY⟩ : ∃ Y, num t.toNat = Y := ⟨_, rfl⟩
      rw [hX] at hN3
      rw [hY] at hNt hlt
      have hl3' : X.length ≤ 8 := by rw [← hX]; exact hl3
      have hC : cTrim t = X ++ Y := by rw [← hX, ← hY]; rfl
      rw [hC]
      clear hX hY hC hl3
      go_enter Try.func22, Try.ntmps22
      refine wk_seq (fun K0 hK0 => ?_)
      refine wk_reg ?_
      iterate 2 (refine pl_take (v := ?_) rfl ?_ ?_; rotate_left; (· (go_simp; first | done | with_reducible rfl | rfl | omega | assumption | (simp; omega))); (try simp only [Act.put, aP, aZ, aS]))
      refine pl_done ?_
      refine hK0.out _ _ ?_
      (try clear hK0 K0)
      refine wk_seq (fun K1 hK1 => ?_)
      refine wk_seq (fun K2 hK2 => ?_)
      refine wk_reg ?_
      refine pl_take (v := ?_) rfl ?_ ?_
      rotate_left
      · (go_simp; first | done | with_reducible rfl | rfl | omega | assumption | (simp; omega))
      (try simp only [Act.put, aP, aZ, aS])
      iterate 2 (refine pl_take (v := .bool false) rfl ?_ ?_; (· (go_simp; first | done | with_reducible rfl | rfl | omega | assumption | (simp; omega))); (try simp only [Act.put, aP, aZ, aS]))
      refine pl_take (v := ?_) (by kernel_rfl) ?_ ?_
      rotate_left
      · (go_simp; first | done | with_reducible rfl | rfl | omega | assumption | (simp; omega))
      (try simp only [Act.put, aP, aZ, aS])
      refine pl_take (v := .bool false) (by kernel_rfl) ?_ ?_
      · (go_simp; first | done | with_reducible rfl | rfl | omega | assumption | (simp; omega))
      (try simp only [Act.put, aP, aZ, aS])
      refine pl_take (v := .bool false) rfl ?_ ?_
      · (go_simp; first | done | with_reducible rfl | rfl | omega | assumption | (simp; omega))
      (try simp only [Act.put, aP, aZ, aS])
      refine pl_done ?_
      refine hK2.out _ _ ?_
      (try clear hK2 K2)
      refine wp_cond_false rfl ?_
      refine wp_skip ?_
      refine hK1.out _ _ ?_
      (try clear hK1 K1)
      refine wk_seq (fun K4 hK4 => ?_)
      refine wk_reg ?_
      refine pl_eff rfl (fun Kp hKp => ?_)
      go_simp
      (refine (hN3 _ _ (by assumption)).mono ?_; rintro e10 w10 ⟨B10, c10, rfl, hs10⟩)
      (try go_wp2_with fail)
      refine hKp.out _ _ ?_
      clear hKp Kp
      (try simp only [Act.put, aP, aZ, aS])
      refine pl_take (v := ?_) rfl ?_ ?_
      rotate_left
      · (go_simp; first | done | with_reducible rfl | rfl | omega | assumption | (simp; omega))
      (try simp only [Act.put, aP, aZ, aS])
      refine pl_eff rfl (fun Kp hKp => ?_)
      go_simp
      (refine (hNt _ _ (by assumption)).mono ?_; rintro e12 w12 ⟨B12, c12, rfl, hs12⟩)
      (try go_wp2_with fail)
      refine hKp.out _ _ ?_
      clear hKp Kp
      (try simp only [Act.put, aP, aZ, aS])
      refine pl_eff rfl (fun Kp hKp => ?_)
      ((with_reducible apply st_append); go_must (assumption; rfl; rfl; (repeat (first | with_reducible exact Out.here _ | apply Out.there)); (repeat (first | with_reducible assumption | with_reducible exact Rd.own | with_reducible exact Rd.nil | with_reducible apply Rd.cons)); (first | exact B8_one _ | exact I8_one _ | (simp [Value.oneCell'])); (first | omega | (simp only [maxLen]; omega)); omega; intro A13 c13 w13 hs13 hc13; (try ((refine hs13.own_elim ?_ ?_); omega; rintro g13 rfl)); try simp only [Nat.zero_add, List.nil_append] at hs13 hc13))
      refine hKp.out _ _ ?_
      clear hKp Kp
      (try simp only [Act.put, aP, aZ, aS])
      iterate 2 (refine pl_take (v := ?_) rfl ?_ ?_; rotate_left; (· (go_simp; first | done | with_reducible rfl | rfl | omega | assumption | (simp; omega))); (try simp only [Act.put, aP, aZ, aS]))
      refine pl_done ?_
      refine hK4.out _ _ ?_
      (try clear hK4 K4)
      refine wp_ret ?_
      go_ret2
      exact RetT.mk (by assumption) (by (repeat (first | exact Pick.nil _ | exact Pick.tail _ | exact Out.here _ | apply Out.there | apply Pick.cons | apply Pick.drop))) (by simp [B8_app]) (by simp) rfl

theorem putR_spec {w0 w : World} {L : List HP} {A : Option Addr} {c : Nat} (s q : Int) (d : List UInt8) (hd : d.length ≤ 1048576) (hs : Sat w0 w L) (hR : Rd w0 L A d.length 1 (B8 d)) :
    Calls Try.prog 20 #[.int .i64 s, .int .i64 q, .slice A d.length c] w (RetT w0 L (putC s q d)) := by
  have hns := fun (w : World) (L' : List HP) (hs : Sat w0 w L') => numR_spec s hs
  have hnq := fun (w : World) (L' : List HP) (hs : Sat w0 w L') => numR_spec q hs
  cases h1 : okNum s with
  | false =>
    rw [h1] at hns
    rw [show putC s q d = ([], 1) from by unfold putC; rw [if_pos (.inl h1)]]
    clear h1
    go_enter Try.func20, Try.ntmps20
    refine wk_seq (fun K0 hK0 => ?_)
    refine wk_reg ?_
    iterate 2 (refine pl_take (v := ?_) rfl ?_ ?_; rotate_left; (· (go_simp; first | done | with_reducible rfl | rfl | omega | assumption | (simp; omega))); (try simp only [Act.put, aP, aZ, aS]))
    refine pl_done ?_
    refine hK0.out _ _ ?_
    (try clear hK0 K0)
    refine wk_seq (fun K1 hK1 => ?_)
    refine wk_seq (fun K2 hK2 => ?_)
    refine wk_reg ?_
    refine pl_take (v := ?_) rfl ?_ ?_
    rotate_left
    · (go_simp; first | done | with_reducible rfl | rfl | omega | assumption | (simp; omega))
    (try simp only [Act.put, aP, aZ, aS])
    refine pl_eff rfl (fun Kp hKp => ?_)
    go_simp
    (refine (hns _ _ (by assumption)).mono ?_; rintro e10 w10 ⟨rfl, hs10⟩)
    (try go_wp2_with fail)
    refine hKp.out _ _ ?_
    clear hKp Kp
    (try simp only [Act.put, aP, aZ, aS])
    iterate 2 (refine pl_take (v := .bool true) rfl ?_ ?_; (· (go_simp; first | done | with_reducible rfl | rfl | omega | assumption | (simp; omega))); (try simp only [Act.put, aP, aZ, aS]))
    iterate 3 (refine pl_skip (by kernel_rfl) ?_; (try simp only [Act.put, aP, aZ, aS]))
    refine pl_take (v := .bool true) rfl ?_ ?_
    · (go_simp; first | done | with_reducible rfl | rfl | omega | assumption | (simp; omega))
    (try simp only [Act.put, aP, aZ, aS])
    refine pl_done ?_
    refine hK2.out _ _ ?_
    (try clear hK2 K2)
    refine wp_cond_true rfl ?_
    refine wk_seq (fun K3 hK3 => ?_)
    refine wk_reg ?_
    iterate 2 (refine pl_take (v := ?_) rfl ?_ ?_; rotate_left; (· (go_simp; first | done | with_reducible rfl | rfl | omega | assumption | (simp; omega))); (try simp only [Act.put, aP, aZ, aS]))
    refine pl_done ?_
    refine hK3.out _ _ ?_
    (try clear hK3 K3)
    refine wp_ret ?_
    go_ret2
    exact ⟨none, 0, rfl, ((by assumption : Sat w0 w10 L).own_nil 5 1).pick (by (repeat (first | exact Pick.nil _ | exact Pick.tail _ | exact Out.here _ | apply Out.there | apply Pick.cons | apply Pick.drop)))⟩
  | true =>
    rw [h1] at hns
    cases h2 : okNum q with
    | false =>
      rw [h2] at hnq
      rw [show putC s q d = ([], 1) from by unfold putC; rw [if_pos (.inr h2)]]
      clear h1 h2
      go_enter Try.func20, Try.ntmps20
      refine wk_seq (fun K0 hK0 => ?_)
      refine wk_reg ?_
      iterate 2 (refine pl_take (v := ?_) rfl ?_ ?_; rotate_left; (· (go_simp; first | done | with_reducible rfl | rfl | omega | assumption | (simp; omega))); (try simp only [Act.put, aP, aZ, aS]))
      refine pl_done ?_
      refine hK0.out _ _ ?_
      (try clear hK0 K0)
      refine wk_seq (fun K1 hK1 => ?_)
      refine wk_seq (fun K2 hK2 => ?_)
      refine wk_reg ?_
      refine pl_take (v := ?_) rfl ?_ ?_
      rotate_left
      · (go_simp; first | done | with_reducible rfl | rfl | omega | assumption | (simp; omega))
      (try simp only [Act.put, aP, aZ, aS])
      refine pl_eff rfl (fun Kp hKp => ?_)
      go_simp
      (refine (hns _ _ (by assumption)).mono ?_; rintro e10 w10 ⟨rfl, hs10⟩)
      (try go_wp2_with fail)
      refine hKp.out _ _ ?_
      clear hKp Kp
      (try simp only [Act.put, aP, aZ, aS])
      iterate 2 (refine pl_take (v := .bool false) rfl ?_ ?_; (· (go_simp; first | done | with_reducible rfl | rfl | omega | assumption | (simp; omega))); (try simp only [Act.put, aP, aZ, aS]))
      refine pl_take (v := ?_) (by kernel_rfl) ?_ ?_
      rotate_left
      · (go_simp; first | done | with_reducible rfl | rfl | omega | assumption | (simp; omega))
      (try simp only [Act.put, aP, aZ, aS])
      refine pl_eff (by kernel_rfl) (fun Kp hKp => ?_)
      go_simp
      (refine (hnq _ _ (by assumption)).mono ?_; rintro e14 w14 ⟨rfl, hs14⟩)
      (try go_wp2_with fail)
      refine hKp.out _ _ ?_
      clear hKp Kp
      (try simp only [Act.put, aP, aZ, aS])
      refine pl_take (v := .bool true) (by kernel_rfl) ?_ ?_
      · (go_simp; first | done | with_reducible rfl | rfl | omega | assumption | (simp; omega))
      (try simp only [Act.put, aP, aZ, aS])
      refine pl_take (v := .bool true) rfl ?_ ?_
      · (go_simp; first | done | with_reducible rfl | rfl | omega | assumption | (simp; omega))
      (try simp only [Act.put, aP, aZ, aS])
      refine pl_done ?_
      refine hK2.out _ _ ?_
      (try clear hK2 K2)
      refine wp_cond_true rfl ?_
      refine wk_seq (fun K3 hK3 => ?_)
      refine wk_reg ?_
      iterate 2 (refine pl_take (v := ?_) rfl ?_ ?_; rotate_left; (· (go_simp; first | done | with_reducible rfl | rfl | omega | assumption | (simp; omega))); (try simp only [Act.put, aP, aZ, aS]))
      refine pl_done ?_
      refine hK3.out _ _ ?_
      (try clear hK3 K3)
      refine wp_ret ?_
      go_ret2
      exact ⟨none, 0, rfl, ((by assumption : Sat w0 w14 L).own_nil 5 1).pick (by (repeat (first | exact Pick.nil _ | exact Pick.tail _ | exact Out.here _ | apply Out.there | apply Pick.cons | apply Pick.drop)))⟩
    | true =>
      rw [h2] at hnq
      by_cases h3 : 1024 < d.length
      · rw [show putC s q d = ([], 6) from by unfold putC; rw [if_neg (by rw [h1, h2]; simp), if_pos h3]]
        have h3' : (1024 : Int) < (d.length : Int) := by omega
        clear h1 h2
        go_enter Try.func20, Try.ntmps20
        refine wk_seq (fun K0 hK0 => ?_)
        refine wk_reg ?_
        iterate 2 (refine pl_take (v := ?_) rfl ?_ ?_; rotate_left; (· (go_simp; first | done | with_reducible rfl | rfl | omega | assumption | (simp; omega))); (try simp only [Act.put, aP, aZ, aS]))
        refine pl_done ?_
        refine hK0.out _ _ ?_
        (try clear hK0 K0)
        refine wk_seq (fun K1 hK1 => ?_)
        refine wk_seq (fun K2 hK2 => ?_)
        refine wk_reg ?_
        refine pl_take (v := ?_) rfl ?_ ?_
        rotate_left
        · (go_simp; first | done | with_reducible rfl | rfl | omega | assumption | (simp; omega))
        (try simp only [Act.put, aP, aZ, aS])
        refine pl_eff rfl (fun Kp hKp => ?_)
        go_simp
        (refine (hns _ _ (by assumption)).mono ?_; rintro e10 w10 ⟨rfl, hs10⟩)
        (try go_wp2_with fail)
        refine hKp.out _ _ ?_
        clear hKp Kp
        (try simp only [Act.put, aP, aZ, aS])
        iterate 2 (refine pl_take (v := .bool false) rfl ?_ ?_; (· (go_simp; first | done | with_reducible rfl | rfl | omega | assumption | (simp; omega))); (try simp only [Act.put, aP, aZ, aS]))
        refine pl_take (v := ?_) (by kernel_rfl) ?_ ?_
        rotate_left
        · (go_simp; first | done | with_reducible rfl | rfl | omega | assumption | (simp; omega))
        (try simp only [Act.put, aP, aZ, aS])
        refine pl_eff (by kernel_rfl) (fun Kp hKp => ?_)
        go_simp
        (refine (hnq _ _ (by assumption)).mono ?_; rintro e14 w14 ⟨rfl, hs14⟩)
        (try go_wp2_with fail)
        refine hKp.out _ _ ?_
        clear hKp Kp
        (try simp only [Act.put, aP, aZ, aS])
        refine pl_take (v := .bool false) (by kernel_rfl) ?_ ?_
        · (go_simp; first | done | with_reducible rfl | rfl | omega | assumption | (simp; omega))
        (try simp only [Act.put, aP, aZ, aS])
        refine pl_take (v := .bool false) rfl ?_ ?_
        · (go_simp; first | done | with_reducible rfl | rfl | omega | assumption | (simp; omega))
        (try simp only [Act.put, aP, aZ, aS])
        refine pl_done ?_
        refine hK2.out _ _ ?_
        (try clear hK2 K2)
        refine wp_cond_false rfl ?_
        refine wp_skip ?_
        refine hK1.out _ _ ?_
        (try clear hK1 K1)
        refine wk_seq (fun K4 hK4 => ?_)
        refine wk_seq (fun K5 hK5 => ?_)
        refine wk_reg ?_
        iterate 2 (refine pl_take (v := ?_) rfl ?_ ?_; rotate_left; (· (go_simp; first | done | with_reducible rfl | rfl | omega | assumption | (simp; omega))); (try simp only [Act.put, aP, aZ, aS]))
        refine pl_take (v := .bool true) rfl ?_ ?_
        · (go_simp; first | done | with_reducible rfl | rfl | omega | assumption | (simp; omega))
        (try simp only [Act.put, aP, aZ, aS])
        refine pl_done ?_
        refine hK5.out _ _ ?_
        (try clear hK5 K5)
        refine wp_cond_true rfl ?_
        refine wk_seq (fun K6 hK6 => ?_)
        refine wk_reg ?_
        iterate 2 (refine pl_take (v := ?_) rfl ?_ ?_; rotate_left; (· (go_simp; first | done | with_reducible rfl | rfl | omega | assumption | (simp; omega))); (try simp only [Act.put, aP, aZ, aS]))
        refine pl_done ?_
        refine hK6.out _ _ ?_
        (try clear hK6 K6)
        refine wp_ret ?_
        go_ret2
        exact ⟨none, 0, rfl, ((by assumption : Sat w0 w14 L).own_nil 5 1).pick (by (repeat (first | exact Pick.nil _ | exact Pick.tail _ | exact Out.here _ | apply Out.there | apply Pick.cons | apply Pick.drop)))⟩
      · rw [show putC s q d = (cPut s q d, 0) from by unfold putC; rw [if_neg (by rw [h1, h2]; simp), if_neg h3]]
        have h3' : ¬ (1024 : Int) < (d.length : Int) := by omega
        have hb1 : 0 ≤ s ∧ s < 281474976710656 := by simp [okNum] at h1; omega
        have hb2 : 0 ≤ q ∧ q < 281474976710656 := by simp [okNum] at h2; omega
        have hN2 := fun (w : World) (L' : List HP) (hs : Sat w0 w L') => refNumber_spec 2 (by omega) (by omega) hs
        have hNs := fun (w : World) (L' : List HP) (hs : Sat w0 w L') => refNumber_spec s (by omega) (by omega) hs
        have hNq := fun (w : World) (L' : List HP) (hs : Sat w0 w L') => refNumber_spec q (by omega) (by omega) hs
        have hT := fun (w : World) (L' : List HP) (hs : Sat w0 w L') (h : Rd w0 L' A d.length 1 (B8 d)) => text_spec (c := c) d hd hs h
        have hl2 : (num (2 : Int).toNat).length ≤ 8 := num_len 2 (by omega)
        have hls := num_len s.toNat (by omega)
        have hlq := num_len q.toNat (by omega)
        have hld := num_len d.length (by omega)
        obtain ⟨X, hX⟩ : ∃ X, num (2 : Int).toNat = X := ⟨_, rfl⟩
        obtain ⟨Y, hY⟩ : ∃ Y, num s.toNat = Y := ⟨_, rfl⟩
        obtain ⟨Z, hZ⟩ : ∃ Z, num q.toNat = Z := ⟨_, rfl⟩
        obtain ⟨U, hU⟩ : ∃ U, num d.length ++ d = U := ⟨_, rfl⟩
        have hC : cPut s q d = X ++ Y ++ Z ++ U := by rw [← hX, ← hY, ← hZ, ← hU]; rfl
        rw [hX] at hN2 hl2
        rw [hY] at hNs hls
        rw [hZ] at hNq hlq
        have hUl : U.length ≤ 1032 := by rw [← hU, List.length_append]; omega
        rw [hU] at hT
        rw [hC]
        clear hX hY hZ hU hC h1 h2 hld
        go_enter Try.func20, Try.ntmps20
        refine wk_seq (fun K0 hK0 => ?_)
        refine wk_reg ?_
        iterate 2 (refine pl_take (v := ?_) rfl ?_ ?_; rotate_left; (· (go_simp; first | done | with_reducible rfl | rfl | omega | assumption | (simp; omega))); (try simp only [Act.put, aP, aZ, aS]))
        refine pl_done ?_
        refine hK0.out _ _ ?_
        (try clear hK0 K0)
        refine wk_seq (fun K1 hK1 => ?_)
        refine wk_seq (fun K2 hK2 => ?_)
        refine wk_reg ?_
        refine pl_take (v := ?_) rfl ?_ ?_
        rotate_left
        · (go_simp; first | done | with_reducible rfl | rfl | omega | assumption | (simp; omega))
        (try simp only [Act.put, aP, aZ, aS])
        refine pl_eff rfl (fun Kp hKp => ?_)
        go_simp
        (refine (hns _ _ (by assumption)).mono ?_; rintro e10 w10 ⟨rfl, hs10⟩)
        (try go_wp2_with fail)
        refine hKp.out _ _ ?_
        clear hKp Kp
        (try simp only [Act.put, aP, aZ, aS])
        iterate 2 (refine pl_take (v := .bool false) rfl ?_ ?_; (· (go_simp; first | done | with_reducible rfl | rfl | omega | assumption | (simp; omega))); (try simp only [Act.put, aP, aZ, aS]))
        refine pl_take (v := ?_) (by kernel_rfl) ?_ ?_
        rotate_left
        · (go_simp; first | done | with_reducible rfl | rfl | omega | assumption | (simp; omega))
        (try simp only [Act.put, aP, aZ, aS])
        refine pl_eff (by kernel_rfl) (fun Kp hKp => ?_)
        go_simp
        (refine (hnq _ _ (by assumption)).mono ?_; rintro e14 w14 ⟨rfl, hs14⟩)
        (try go_wp2_with fail)
        refine hKp.out _ _ ?_
        clear hKp Kp
        (try simp only [Act.put, aP, aZ, aS])
        refine pl_take (v := .bool false) (by kernel_rfl) ?_ ?_
        · (go_simp; first | done | with_reducible rfl | rfl | omega | assumption | (simp; omega))
        (try simp only [Act.put, aP, aZ, aS])
        refine pl_take (v := .bool false) rfl ?_ ?_
        · (go_simp; first | done | with_reducible rfl | rfl | omega | assumption | (simp; omega))
        (try simp only [Act.put, aP, aZ, aS])
        refine pl_done ?_
        refine hK2.out _ _ ?_
        (try clear hK2 K2)
        refine wp_cond_false rfl ?_
        refine wp_skip ?_
        refine hK1.out _ _ ?_
        (try clear hK1 K1)
        refine wk_seq (fun K4 hK4 => ?_)
        refine wk_seq (fun K5 hK5 => ?_)
        refine wk_reg ?_
        iterate 2 (refine pl_take (v := ?_) rfl ?_ ?_; rotate_left; (· (go_simp; first | done | with_reducible rfl | rfl | omega | assumption | (simp; omega))); (try simp only [Act.put, aP, aZ, aS]))
        refine pl_take (v := .bool false) rfl ?_ ?_
        · (go_simp; first | done | with_reducible rfl | rfl | omega | assumption | (simp; omega))
        (try simp only [Act.put, aP, aZ, aS])
        refine pl_done ?_
        refine hK5.out _ _ ?_
        (try clear hK5 K5)
        refine wp_cond_false rfl ?_
        refine wp_skip ?_
        refine hK4.out _ _ ?_
        (try clear hK4 K4)
        refine wk_seq (fun K7 hK7 => ?_)
        refine wk_reg ?_
        refine pl_eff rfl (fun Kp hKp => ?_)
        go_simp
        (refine (hN2 _ _ (by assumption)).mono ?_; rintro e20 w20 ⟨B20, c20, rfl, hs20⟩)
        (try go_wp2_with fail)
        refine hKp.out _ _ ?_
        clear hKp Kp
        (try simp only [Act.put, aP, aZ, aS])
        refine pl_take (v := ?_) rfl ?_ ?_
        rotate_left
        · (go_simp; first | done | with_reducible rfl | rfl | omega | assumption | (simp; omega))
        (try simp only [Act.put, aP, aZ, aS])
        refine pl_eff rfl (fun Kp hKp => ?_)
        go_simp
        (refine (hNs _ _ (by assumption)).mono ?_; rintro e22 w22 ⟨B22, c22, rfl, hs22⟩)
        (try go_wp2_with fail)
        refine hKp.out _ _ ?_
        clear hKp Kp
        (try simp only [Act.put, aP, aZ, aS])
        refine pl_eff rfl (fun Kp hKp => ?_)
        ((with_reducible apply st_append); go_must (assumption; rfl; rfl; (repeat (first | with_reducible exact Out.here _ | apply Out.there)); (repeat (first | with_reducible assumption | with_reducible exact Rd.own | with_reducible exact Rd.nil | with_reducible apply Rd.cons)); (first | exact B8_one _ | exact I8_one _ | (simp [Value.oneCell'])); (first | omega | (simp only [maxLen]; omega)); omega; intro A23 c23 w23 hs23 hc23; (try ((refine hs23.own_elim ?_ ?_); omega; rintro g23 rfl)); try simp only [Nat.zero_add, List.nil_append] at hs23 hc23))
        refine hKp.out _ _ ?_
        clear hKp Kp
        (try simp only [Act.put, aP, aZ, aS])
        refine pl_take (v := ?_) rfl ?_ ?_
        rotate_left
        · (go_simp; first | done | with_reducible rfl | rfl | omega | assumption | (simp; omega))
        (try simp only [Act.put, aP, aZ, aS])
        refine pl_done ?_
        refine hK7.out _ _ ?_
        (try clear hK7 K7)
        refine wk_seq (fun K8 hK8 => ?_)
        refine wk_reg ?_
        iterate 2 (refine pl_take (v := ?_) rfl ?_ ?_; rotate_left; (· (go_simp; first | done | with_reducible rfl | rfl | omega | assumption | (simp; omega))); (try simp only [Act.put, aP, aZ, aS]))
        refine pl_eff rfl (fun Kp hKp => ?_)
        go_simp
        (refine (hNq _ _ (by assumption)).mono ?_; rintro e26 w26 ⟨B26, c26, rfl, hs26⟩)
        (try go_wp2_with fail)
        refine hKp.out _ _ ?_
        clear hKp Kp
        (try simp only [Act.put, aP, aZ, aS])
        refine pl_eff rfl (fun Kp hKp => ?_)
        ((with_reducible apply st_append); go_must (assumption; rfl; rfl; (repeat (first | with_reducible exact Out.here _ | apply Out.there)); (repeat (first | with_reducible assumption | with_reducible exact Rd.own | with_reducible exact Rd.nil | with_reducible apply Rd.cons)); (first | exact B8_one _ | exact I8_one _ | (simp [Value.oneCell'])); (first | omega | (simp only [maxLen]; omega)); omega; intro A27 c27 w27 hs27 hc27; (try ((refine hs27.own_elim ?_ ?_); omega; rintro g27 rfl)); try simp only [Nat.zero_add, List.nil_append] at hs27 hc27))
        refine hKp.out _ _ ?_
        clear hKp Kp
        (try simp only [Act.put, aP, aZ, aS])
        refine pl_take (v := ?_) rfl ?_ ?_
        rotate_left
        · (go_simp; first | done | with_reducible rfl | rfl | omega | assumption | (simp; omega))
        (try simp only [Act.put, aP, aZ, aS])
        refine pl_eff rfl (fun Kp hKp => ?_)
        go_simp
        (refine (hT _ _ (by assumption) (by (repeat (first | with_reducible assumption | with_reducible exact Rd.own | with_reducible exact Rd.nil | with_reducible apply Rd.cons)))).mono ?_; rintro e29 w29 ⟨B29, c29, rfl, hs29⟩)
        (try go_wp2_with fail)
        refine hKp.out _ _ ?_
        clear hKp Kp
        (try simp only [Act.put, aP, aZ, aS])
        refine pl_eff rfl (fun Kp hKp => ?_)
        ((with_reducible apply st_append); go_must (assumption; rfl; rfl; (repeat (first | with_reducible exact Out.here _ | apply Out.there)); (repeat (first | with_reducible assumption | with_reducible exact Rd.own | with_reducible exact Rd.nil | with_reducible apply Rd.cons)); (first | exact B8_one _ | exact I8_one _ | (simp [Value.oneCell'])); (first | omega | (simp only [maxLen]; omega)); omega; intro A30 c30 w30 hs30 hc30; (try ((refine hs30.own_elim ?_ ?_); omega; rintro g30 rfl)); try simp only [Nat.zero_add, List.nil_append] at hs30 hc30))
        refine hKp.out _ _ ?_
        clear hKp Kp
        (try simp only [Act.put, aP, aZ, aS])
        iterate 2 (refine pl_take (v := ?_) rfl ?_ ?_; rotate_left; (· (go_simp; first | done | with_reducible rfl | rfl | omega | assumption | (simp; omega))); (try simp only [Act.put, aP, aZ, aS]))
        refine pl_done ?_
        refine hK8.out _ _ ?_
        (try clear hK8 K8)
        refine wp_ret ?_
        go_ret2
        exact RetT.mk (by assumption) (by (repeat (first | exact Pick.nil _ | exact Pick.tail _ | exact Out.here _ | apply Out.there | apply Pick.cons | apply Pick.drop))) (by simp [B8_app]) (by simp; omega) rfl

theorem machineCommands_walk {w0 w : World} {L : List HP} {A : Option Addr} {c : Nat} (s q : Int) (d : List UInt8) (t : Int) (hd : d.length ≤ 1048576) (hs : Sat w0 w L) (hR : Rd w0 L A d.length 1 (B8 d)) :
    Calls Try.prog 4 #[.int .i64 s, .int .i64 q, .slice A d.length c, .int .i64 t] w (RetB w0 L true) := by
  have hPm := fun (w : World) (L' : List HP) (A : Option Addr) (c : Nat) (hs : Sat w0 w L') (h : Rd w0 L' A d.length 1 (B8 d)) => putM_spec (c := c) s q d (by omega) hs h
  have hPr := fun (w : World) (L' : List HP) (A : Option Addr) (c : Nat) (hs : Sat w0 w L') (h : Rd w0 L' A d.length 1 (B8 d)) => putR_spec (c := c) s q d hd hs h
  have hTm := fun (w : World) (L' : List HP) (hs : Sat w0 w L') => trimM_spec t hs
  have hTr := fun (w : World) (L' : List HP) (hs : Sat w0 w L') => trimR_spec t hs
  have hOm := fun (w : World) (L' : List HP) (hs : Sat w0 w L') => openM_spec hs
  have hOr := fun (w : World) (L' : List HP) (hs : Sat w0 w L') => openR_spec hs
  obtain ⟨⟨P, pe⟩, hP⟩ : ∃ z, putC s q d = z := ⟨_, rfl⟩
  obtain ⟨⟨T, te⟩, hT⟩ : ∃ z, trimC t = z := ⟨_, rfl⟩
  obtain ⟨O, hO⟩ : ∃ z, cOpen = z := ⟨_, rfl⟩
  rw [hP] at hPm hPr
  rw [hT] at hTm hTr
  rw [hO] at hOm hOr
  clear hP hT hO
  go_enter Try.func4, Try.ntmps4
  refine wk_seq (fun K0 hK0 => ?_)
  refine wk_reg ?_
  refine pl_take (v := .bool false) rfl ?_ ?_
  · (go_simp; first | done | with_reducible rfl | rfl | omega | assumption | (simp; omega))
  (try simp only [Act.put, aP, aZ, aS])
  refine pl_done ?_
  refine hK0.out _ _ ?_
  (try clear hK0 K0)
  refine wk_seq (fun K1 hK1 => ?_)
  refine wk_reg ?_
  refine pl_take (v := ?_) rfl ?_ ?_
  rotate_left
  · (go_simp; first | done | with_reducible rfl | rfl | omega | assumption | (simp; omega))
  (try simp only [Act.put, aP, aZ, aS])
  refine pl_eff rfl (fun Kp hKp => ?_)
  go_simp
  (refine (lent_spec d (by omega) (by assumption) (by (repeat (first | with_reducible assumption | with_reducible exact Rd.own | with_reducible exact Rd.nil | with_reducible apply Rd.cons)))).mono ?_; rintro e19 w19 ⟨g19, c19, rfl, hs19⟩)
  (try go_wp2_with fail)
  refine hKp.out _ _ ?_
  clear hKp Kp
  (try simp only [Act.put, aP, aZ, aS])
  refine pl_take (v := ?_) rfl ?_ ?_
  rotate_left
  · (go_simp; first | done | with_reducible rfl | rfl | omega | assumption | (simp; omega))
  (try simp only [Act.put, aP, aZ, aS])
  refine pl_done ?_
  refine hK1.out _ _ ?_
  (try clear hK1 K1)
  refine wk_seq (fun K2 hK2 => ?_)
  refine wk_reg ?_
  iterate 3 (refine pl_take (v := ?_) rfl ?_ ?_; rotate_left; (· (go_simp; first | done | with_reducible rfl | rfl | omega | assumption | (simp; omega))); (try simp only [Act.put, aP, aZ, aS]))
  refine pl_eff rfl (fun Kp hKp => ?_)
  go_simp
  (refine (hPm _ _ _ _ (by assumption) (by (repeat (first | with_reducible assumption | with_reducible exact Rd.lent _ | with_reducible exact Rd.own | with_reducible exact Rd.nil | with_reducible apply Rd.cons)))).mono ?_; rintro e24 w24 ⟨B24, c24, rfl, hs24⟩; simp only at hs24 ⊢)
  (try go_wp2_with fail)
  refine hKp.out _ _ ?_
  clear hKp Kp
  (try simp only [Act.put, aP, aZ, aS])
  iterate 5 (refine pl_take (v := ?_) rfl ?_ ?_; rotate_left; (· (go_simp; first | done | with_reducible rfl | rfl | omega | assumption | (simp; omega))); (try simp only [Act.put, aP, aZ, aS]))
  refine pl_done ?_
  refine hK2.out _ _ ?_
  (try clear hK2 K2)
  refine wk_seq (fun K3 hK3 => ?_)
  refine wk_reg ?_
  iterate 3 (refine pl_take (v := ?_) rfl ?_ ?_; rotate_left; (· (go_simp; first | done | with_reducible rfl | rfl | omega | assumption | (simp; omega))); (try simp only [Act.put, aP, aZ, aS]))
  refine pl_eff rfl (fun Kp hKp => ?_)
  go_simp
  (refine (hPr _ _ _ _ (by assumption) (by (repeat (first | with_reducible assumption | with_reducible exact Rd.own | with_reducible exact Rd.nil | with_reducible apply Rd.cons)))).mono ?_; rintro e31 w31 ⟨B31, c31, rfl, hs31⟩; simp only at hs31 ⊢)
  (try go_wp2_with fail)
  refine hKp.out _ _ ?_
  clear hKp Kp
  (try simp only [Act.put, aP, aZ, aS])
  iterate 5 (refine pl_take (v := ?_) rfl ?_ ?_; rotate_left; (· (go_simp; first | done | with_reducible rfl | rfl | omega | assumption | (simp; omega))); (try simp only [Act.put, aP, aZ, aS]))
  refine pl_done ?_
  refine hK3.out _ _ ?_
  (try clear hK3 K3)
  refine wk_seq (fun K4 hK4 => ?_)
  refine wk_reg ?_
  refine pl_take (v := ?_) rfl ?_ ?_
  rotate_left
  · (go_simp; first | done | with_reducible rfl | rfl | omega | assumption | (simp; omega))
  (try simp only [Act.put, aP, aZ, aS])
  refine pl_eff rfl (fun Kp hKp => ?_)
  go_simp
  (refine (hTm _ _ (by assumption)).mono ?_; rintro e36 w36 ⟨B36, c36, rfl, hs36⟩; simp only at hs36 ⊢)
  (try go_wp2_with fail)
  refine hKp.out _ _ ?_
  clear hKp Kp
  (try simp only [Act.put, aP, aZ, aS])
  iterate 5 (refine pl_take (v := ?_) rfl ?_ ?_; rotate_left; (· (go_simp; first | done | with_reducible rfl | rfl | omega | assumption | (simp; omega))); (try simp only [Act.put, aP, aZ, aS]))
  refine pl_done ?_
  refine hK4.out _ _ ?_
  (try clear hK4 K4)
  refine wk_seq (fun K5 hK5 => ?_)
  refine wk_reg ?_
  refine pl_take (v := ?_) rfl ?_ ?_
  rotate_left
  · (go_simp; first | done | with_reducible rfl | rfl | omega | assumption | (simp; omega))
  (try simp only [Act.put, aP, aZ, aS])
  refine pl_eff rfl (fun Kp hKp => ?_)
  go_simp
  (refine (hTr _ _ (by assumption)).mono ?_; rintro e41 w41 ⟨B41, c41, rfl, hs41⟩; simp only at hs41 ⊢)
  (try go_wp2_with fail)
  refine hKp.out _ _ ?_
  clear hKp Kp
  (try simp only [Act.put, aP, aZ, aS])
  iterate 5 (refine pl_take (v := ?_) rfl ?_ ?_; rotate_left; (· (go_simp; first | done | with_reducible rfl | rfl | omega | assumption | (simp; omega))); (try simp only [Act.put, aP, aZ, aS]))
  refine pl_done ?_
  refine hK5.out _ _ ?_
  (try clear hK5 K5)
  refine wk_seq (fun K6 hK6 => ?_)
  refine rg_start rfl (by assumption) (fun wr6 hsr6 => ?_)
  refine rg_one (i := 0) (by kernel_rfl) rfl rfl (fun Kp hKp => ?_)
  go_simp
  (refine (hOm _ _ (by assumption)).mono ?_; rintro e44 w44 ⟨B44, c44, rfl, hs44⟩)
  (try go_wp2_with fail)
  refine rg_back (hK := hKp) ?_ (fun hsk44 => ?_)
  · (first | assumption | (apply Sat.drew; assumption) | (apply Sat.pick; assumption; (repeat (first | exact Pick.nil _ | with_reducible exact Pick.tail _ | with_reducible exact Out.here _ | apply Out.there | apply Pick.cons | apply Pick.drop))))
  clear hKp Kp
  have hsz44 := hs44
  refine rg_more (L' := _) (Sat.pickOf hs44 (by (repeat (first | exact Pick.nil _ | with_reducible exact Pick.tail _ | with_reducible exact Out.here _ | apply Out.there | apply Pick.cons | apply Pick.drop)))) ?_
  (try simp only [Act.put, aP, aZ, aS])
  refine rg_take (i := 1) (v := ?_) rfl (by kernel_rfl) (by kernel_rfl) (by kernel_rfl) (fun _ _ _ h => h) rfl (by assumption) ?_ ?_
  rotate_left
  · intro w hSw; (first | ((with_reducible apply yl_b2s); assumption; rfl; (repeat (first | with_reducible assumption | with_reducible exact Rd.own | with_reducible exact Rd.nil | with_reducible apply Rd.cons)); rfl) | (go_simp; first | done | with_reducible rfl | rfl | omega | assumption | (simp; omega)))
  (try simp only [Act.put, aP, aZ, aS])
  refine rg_one (i := 2) (by kernel_rfl) rfl rfl (fun Kp hKp => ?_)
  go_simp
  (refine (hOr _ _ (by assumption)).mono ?_; rintro e46 w46 ⟨B46, c46, rfl, hs46⟩)
  (try go_wp2_with fail)
  refine rg_back (hK := hKp) ?_ (fun hsk46 => ?_)
  · (first | assumption | (apply Sat.drew; assumption) | (apply Sat.pick; assumption; (repeat (first | exact Pick.nil _ | with_reducible exact Pick.tail _ | with_reducible exact Out.here _ | apply Out.there | apply Pick.cons | apply Pick.drop))))
  clear hKp Kp
  have hsz46 := hs46
  refine rg_more (L' := _) (Sat.pickOf hs46 (by (repeat (first | exact Pick.nil _ | with_reducible exact Pick.tail _ | with_reducible exact Out.here _ | apply Out.there | apply Pick.cons | apply Pick.drop)))) ?_
  (try simp only [Act.put, aP, aZ, aS])
  refine rg_take (i := 3) (v := ?_) rfl (by kernel_rfl) (by kernel_rfl) (by kernel_rfl) (fun _ _ _ h => h) rfl (by assumption) ?_ ?_
  rotate_left
  · intro w hSw; (first | ((with_reducible apply yl_b2s); assumption; rfl; (repeat (first | with_reducible assumption | with_reducible exact Rd.own | with_reducible exact Rd.nil | with_reducible apply Rd.cons)); rfl) | (go_simp; first | done | with_reducible rfl | rfl | omega | assumption | (simp; omega)))
  (try simp only [Act.put, aP, aZ, aS])
  refine rg_take (i := 4) (v := .bool true) rfl (by kernel_rfl) (by kernel_rfl) (by kernel_rfl) (fun _ _ _ h => h) rfl (by assumption) ?_ ?_
  · intro w hSw; (go_simp; first | done | with_reducible rfl | rfl | omega | assumption | (simp; omega))
  (try simp only [Act.put, aP, aZ, aS])
  refine rg_take (i := 5) (v := .bool true) rfl (by kernel_rfl) (by kernel_rfl) (by kernel_rfl) (fun _ _ _ h => h) rfl (by assumption) ?_ ?_
  · intro w hSw; (go_simp; first | done | with_reducible rfl | rfl | omega | assumption | (simp; omega))
  (try simp only [Act.put, aP, aZ, aS])
  refine rg_take (i := 6) (v := ?_) rfl (by kernel_rfl) (by kernel_rfl) (by kernel_rfl) (fun _ _ _ h => h) (by kernel_rfl) (by assumption) ?_ ?_
  rotate_left
  · intro w hSw; (go_simp; first | done | with_reducible rfl | rfl | omega | assumption | (simp; omega))
  (try simp only [Act.put, aP, aZ, aS])
  refine rg_take (i := 7) (v := ?_) rfl (by kernel_rfl) (by kernel_rfl) (by kernel_rfl) (fun _ _ _ h => h) (by kernel_rfl) (by assumption) ?_ ?_
  rotate_left
  · intro w hSw; (first | ((with_reducible apply yl_b2s); assumption; rfl; (repeat (first | with_reducible assumption | with_reducible exact Rd.own | with_reducible exact Rd.nil | with_reducible apply Rd.cons)); rfl) | (go_simp; first | done | with_reducible rfl | rfl | omega | assumption | (simp; omega)))
  (try simp only [Act.put, aP, aZ, aS])
  refine rg_take (i := 8) (v := ?_) rfl (by kernel_rfl) (by kernel_rfl) (by kernel_rfl) (fun _ _ _ h => h) (by kernel_rfl) (by assumption) ?_ ?_
  rotate_left
  · intro w hSw; (go_simp; first | done | with_reducible rfl | rfl | omega | assumption | (simp; omega))
  (try simp only [Act.put, aP, aZ, aS])
  refine rg_take (i := 9) (v := ?_) rfl (by kernel_rfl) (by kernel_rfl) (by kernel_rfl) (fun _ _ _ h => h) (by kernel_rfl) (by assumption) ?_ ?_
  rotate_left
  · intro w hSw; (first | ((with_reducible apply yl_b2s); assumption; rfl; (repeat (first | with_reducible assumption | with_reducible exact Rd.own | with_reducible exact Rd.nil | with_reducible apply Rd.cons)); rfl) | (go_simp; first | done | with_reducible rfl | rfl | omega | assumption | (simp; omega)))
  (try simp only [Act.put, aP, aZ, aS])
  refine rg_take (i := 10) (v := .bool true) rfl (by kernel_rfl) (by kernel_rfl) (by kernel_rfl) (fun _ _ _ h => h) (by kernel_rfl) (by assumption) ?_ ?_
  · intro w hSw; (go_simp; first | done | with_reducible rfl | rfl | omega | assumption | (simp; omega))
  (try simp only [Act.put, aP, aZ, aS])
  refine rg_take (i := 11) (v := .bool true) rfl (by kernel_rfl) (by kernel_rfl) (by kernel_rfl) (fun _ _ _ h => h) rfl (by assumption) ?_ ?_
  · intro w hSw; (go_simp; first | done | with_reducible rfl | rfl | omega | assumption | (simp; omega))
  (try simp only [Act.put, aP, aZ, aS])
  refine rg_take (i := 12) (v := .bool true) rfl (by kernel_rfl) (by kernel_rfl) (by kernel_rfl) (fun _ _ _ h => h) rfl (by assumption) ?_ ?_
  · intro w hSw; (go_simp; first | done | with_reducible rfl | rfl | omega | assumption | (simp; omega))
  (try simp only [Act.put, aP, aZ, aS])
  refine rg_take (i := 13) (v := ?_) rfl (by kernel_rfl) (by kernel_rfl) (by kernel_rfl) (fun _ _ _ h => h) (by kernel_rfl) (by assumption) ?_ ?_
  rotate_left
  · intro w hSw; (go_simp; first | done | with_reducible rfl | rfl | omega | assumption | (simp; omega))
  (try simp only [Act.put, aP, aZ, aS])
  refine rg_take (i := 15) (v := ?_) rfl (by kernel_rfl) (by kernel_rfl) (by kernel_rfl) (fun _ _ _ h => h) (by kernel_rfl) (by assumption) ?_ ?_
  rotate_left
  · intro w hSw; (go_simp; first | done | with_reducible rfl | rfl | omega | assumption | (simp; omega))
  (try simp only [Act.put, aP, aZ, aS])
  refine rg_one (i := 14) (by kernel_rfl) rfl (by kernel_rfl) (fun Kp hKp => ?_)
  go_simp
  ((refine (numL_spec _ (by assumption)).mono ?_); rintro e58 w58 ⟨rfl, hs58⟩)
  (try go_wp2_with fail)
  refine rg_back (hK := hKp) ?_ (fun hsk58 => ?_)
  · (first | assumption | (apply Sat.drew; assumption) | (apply Sat.pick; assumption; (repeat (first | exact Pick.nil _ | with_reducible exact Pick.tail _ | with_reducible exact Out.here _ | apply Out.there | apply Pick.cons | apply Pick.drop))))
  clear hKp Kp
  have hsz58 := hs58
  (try simp only [Act.put, aP, aZ, aS])
  refine rg_take (i := 16) (v := .bool true) rfl (by kernel_rfl) (by kernel_rfl) (by kernel_rfl) (fun _ _ _ h => h) (by kernel_rfl) (by assumption) ?_ ?_
  · intro w hSw; (go_simp; first | done | with_reducible rfl | rfl | omega | assumption | (simp; omega))
  (try simp only [Act.put, aP, aZ, aS])
  refine rg_take (i := 17) (v := .bool true) rfl (by kernel_rfl) (by kernel_rfl) (by kernel_rfl) (fun _ _ _ h => h) rfl (by assumption) ?_ ?_
  · intro w hSw; (go_simp; first | done | with_reducible rfl | rfl | omega | assumption | (simp; omega))
  (try simp only [Act.put, aP, aZ, aS])
  refine rg_take (i := 18) (v := .bool true) rfl (by kernel_rfl) (by kernel_rfl) (by kernel_rfl) (fun _ _ _ h => h) rfl (by assumption) ?_ ?_
  · intro w hSw; (go_simp; first | done | with_reducible rfl | rfl | omega | assumption | (simp; omega))
  (try simp only [Act.put, aP, aZ, aS])
  refine rg_take (i := 19) (v := ?_) rfl (by kernel_rfl) (by kernel_rfl) (by kernel_rfl) (fun _ _ _ h => h) (by kernel_rfl) (by assumption) ?_ ?_
  rotate_left
  · intro w hSw; (go_simp; first | done | with_reducible rfl | rfl | omega | assumption | (simp; omega))
  (try simp only [Act.put, aP, aZ, aS])
  refine rg_take (i := 20) (v := ?_) rfl (by kernel_rfl) (by kernel_rfl) (by kernel_rfl) (fun _ _ _ h => h) (by kernel_rfl) (by assumption) ?_ ?_
  rotate_left
  · intro w hSw; (first | ((with_reducible apply yl_b2s); assumption; rfl; (repeat (first | with_reducible assumption | with_reducible exact Rd.own | with_reducible exact Rd.nil | with_reducible apply Rd.cons)); rfl) | (go_simp; first | done | with_reducible rfl | rfl | omega | assumption | (simp; omega)))
  (try simp only [Act.put, aP, aZ, aS])
  refine rg_take (i := 21) (v := ?_) rfl (by kernel_rfl) (by kernel_rfl) (by kernel_rfl) (fun _ _ _ h => h) (by kernel_rfl) (by assumption) ?_ ?_
  rotate_left
  · intro w hSw; (go_simp; first | done | with_reducible rfl | rfl | omega | assumption | (simp; omega))
  (try simp only [Act.put, aP, aZ, aS])
  refine rg_take (i := 22) (v := ?_) rfl (by kernel_rfl) (by kernel_rfl) (by kernel_rfl) (fun _ _ _ h => h) (by kernel_rfl) (by assumption) ?_ ?_
  rotate_left
  · intro w hSw; (first | ((with_reducible apply yl_b2s); assumption; rfl; (repeat (first | with_reducible assumption | with_reducible exact Rd.own | with_reducible exact Rd.nil | with_reducible apply Rd.cons)); rfl) | (go_simp; first | done | with_reducible rfl | rfl | omega | assumption | (simp; omega)))
  (try simp only [Act.put, aP, aZ, aS])
  refine rg_take (i := 23) (v := .bool true) rfl (by kernel_rfl) (by kernel_rfl) (by kernel_rfl) (fun _ _ _ h => h) (by kernel_rfl) (by assumption) ?_ ?_
  · intro w hSw; (go_simp; first | done | with_reducible rfl | rfl | omega | assumption | (simp; omega))
  (try simp only [Act.put, aP, aZ, aS])
  refine rg_take (i := 24) (v := .bool true) rfl (by kernel_rfl) (by kernel_rfl) (by kernel_rfl) (fun _ _ _ h => h) rfl (by assumption) ?_ ?_
  · intro w hSw; (go_simp; first | done | with_reducible rfl | rfl | omega | assumption | (simp; omega))
  (try simp only [Act.put, aP, aZ, aS])
  refine rg_take (i := 25) (v := .bool true) rfl (by kernel_rfl) (by kernel_rfl) (by kernel_rfl) (fun _ _ _ h => h) rfl (by assumption) ?_ ?_
  · intro w hSw; (go_simp; first | done | with_reducible rfl | rfl | omega | assumption | (simp; omega))
  (try simp only [Act.put, aP, aZ, aS])
  refine rg_take (i := 26) (v := ?_) rfl (by kernel_rfl) (by kernel_rfl) (by kernel_rfl) (fun _ _ _ h => h) (by kernel_rfl) (by assumption) ?_ ?_
  rotate_left
  · intro w hSw; (go_simp; first | done | with_reducible rfl | rfl | omega | assumption | (simp; omega))
  (try simp only [Act.put, aP, aZ, aS])
  refine rg_take (i := 28) (v := ?_) rfl (by kernel_rfl) (by kernel_rfl) (by kernel_rfl) (fun _ _ _ h => h) (by kernel_rfl) (by assumption) ?_ ?_
  rotate_left
  · intro w hSw; (go_simp; first | done | with_reducible rfl | rfl | omega | assumption | (simp; omega))
  (try simp only [Act.put, aP, aZ, aS])
  refine rg_one (i := 27) (by kernel_rfl) rfl (by kernel_rfl) (fun Kp hKp => ?_)
  go_simp
  ((refine (numL_spec _ (by assumption)).mono ?_); rintro e71 w71 ⟨rfl, hs71⟩)
  (try go_wp2_with fail)
  refine rg_back (hK := hKp) ?_ (fun hsk71 => ?_)
  · (first | assumption | (apply Sat.drew; assumption) | (apply Sat.pick; assumption; (repeat (first | exact Pick.nil _ | with_reducible exact Pick.tail _ | with_reducible exact Out.here _ | apply Out.there | apply Pick.cons | apply Pick.drop))))
  clear hKp Kp
  have hsz71 := hs71
  (try simp only [Act.put, aP, aZ, aS])
  refine rg_take (i := 29) (v := .bool true) rfl (by kernel_rfl) (by kernel_rfl) (by kernel_rfl) (fun _ _ _ h => h) (by kernel_rfl) (by assumption) ?_ ?_
  · intro w hSw; (go_simp; first | done | with_reducible rfl | rfl | omega | assumption | (simp; omega))
  (try simp only [Act.put, aP, aZ, aS])
  refine rg_take (i := 30) (v := .bool true) rfl (by kernel_rfl) (by kernel_rfl) (by kernel_rfl) (fun _ _ _ h => h) rfl (by assumption) ?_ ?_
  · intro w hSw; (go_simp; first | done | with_reducible rfl | rfl | omega | assumption | (simp; omega))
  (try simp only [Act.put, aP, aZ, aS])
  refine rg_take (i := 31) (v := .bool true) rfl (by kernel_rfl) (by kernel_rfl) (by kernel_rfl) (fun _ _ _ h => h) rfl (by assumption) ?_ ?_
  · intro w hSw; (go_simp; first | done | with_reducible rfl | rfl | omega | assumption | (simp; omega))
  (try simp only [Act.put, aP, aZ, aS])
  refine rg_take (i := 32) (v := ?_) rfl (by kernel_rfl) (by kernel_rfl) (by kernel_rfl) (fun _ _ _ h => h) (by kernel_rfl) (by assumption) ?_ ?_
  rotate_left
  · intro w hSw; (go_simp; first | done | with_reducible rfl | rfl | omega | assumption | (simp; omega))
  (try simp only [Act.put, aP, aZ, aS])
  refine rg_take (i := 33) (v := ?_) rfl (by kernel_rfl) (by kernel_rfl) (by kernel_rfl) (fun _ _ _ h => h) (by kernel_rfl) (by assumption) ?_ ?_
  rotate_left
  · intro w hSw; (go_simp; first | done | with_reducible rfl | rfl | omega | assumption | (simp; omega))
  (try simp only [Act.put, aP, aZ, aS])
  refine rg_one (i := 34) (by kernel_rfl) rfl (by kernel_rfl) (fun Kp hKp => ?_)
  go_simp
  (refine (stays_spec d (by omega) (by assumption) (by (repeat (first | with_reducible exact Out.here _ | apply Out.there))) (by (repeat (first | with_reducible assumption | with_reducible exact Rd.own | with_reducible exact Rd.nil | with_reducible apply Rd.cons)))).mono ?_; rintro e78 w78 ⟨rfl, hs78⟩)
  (try go_wp2_with fail)
  refine rg_back (hK := hKp) ?_ (fun hsk78 => ?_)
  · (first | assumption | (apply Sat.drew; assumption) | (apply Sat.pick; assumption; (repeat (first | exact Pick.nil _ | with_reducible exact Pick.tail _ | with_reducible exact Out.here _ | apply Out.there | apply Pick.cons | apply Pick.drop))))
  clear hKp Kp
  have hsz78 := hs78
  (try simp only [Act.put, aP, aZ, aS])
  refine rg_take (i := 35) (v := .bool true) rfl (by kernel_rfl) (by kernel_rfl) (by kernel_rfl) (fun _ _ _ h => h) rfl (by assumption) ?_ ?_
  · intro w hSw; (go_simp; first | done | with_reducible rfl | rfl | omega | assumption | (simp; omega))
  (try simp only [Act.put, aP, aZ, aS])
  refine rg_take (i := 36) (v := .bool true) rfl (by kernel_rfl) (by kernel_rfl) (by kernel_rfl) (fun _ _ _ h => h) rfl (by assumption) ?_ ?_
  · intro w hSw; (go_simp; first | done | with_reducible rfl | rfl | omega | assumption | (simp; omega))
  (try simp only [Act.put, aP, aZ, aS])
  refine rg_one (i := 37) (by kernel_rfl) rfl (by kernel_rfl) (fun Kp hKp => ?_)
  go_simp
  (refine (knows08_spec (by assumption)).mono ?_; rintro e81 w81 ⟨rfl, hs81⟩)
  (try go_wp2_with fail)
  refine rg_back (hK := hKp) ?_ (fun hsk81 => ?_)
  · (first | assumption | (apply Sat.drew; assumption) | (apply Sat.pick; assumption; (repeat (first | exact Pick.nil _ | with_reducible exact Pick.tail _ | with_reducible exact Out.here _ | apply Out.there | apply Pick.cons | apply Pick.drop))))
  clear hKp Kp
  have hsz81 := hs81
  (try simp only [Act.put, aP, aZ, aS])
  refine rg_take (i := 38) (v := .bool true) rfl (by kernel_rfl) (by kernel_rfl) (by kernel_rfl) (fun _ _ _ h => h) rfl (by assumption) ?_ ?_
  · intro w hSw; (go_simp; first | done | with_reducible rfl | rfl | omega | assumption | (simp; omega))
  (try simp only [Act.put, aP, aZ, aS])
  refine rg_take (i := 39) (v := .bool true) rfl (by kernel_rfl) (by kernel_rfl) (by kernel_rfl) (fun _ _ _ h => h) rfl (by assumption) ?_ ?_
  · intro w hSw; (go_simp; first | done | with_reducible rfl | rfl | omega | assumption | (simp; omega))
  (try simp only [Act.put, aP, aZ, aS])
  refine rg_done (by kernel_rfl) ?_
  refine hK6.out _ _ ?_
  (try clear hK6 K6)
  refine wp_ret ?_
  go_ret
  exact ⟨rfl, (by assumption : Sat w0 _ _).pick (by (repeat (first | exact Pick.nil _ | exact Pick.tail _ | exact Out.here _ | apply Out.there | apply Pick.cons | apply Pick.drop)))⟩
end Go.Proofs.Ytdlimjcidblneaa
