/-
  The machine: Sessions.
-/
import Derived.Test.YtdlimjcidblneaaSs4
import Derived.Test.YtdlimjcidblneaaMc8
namespace Go.Proofs.Ytdlimjcidblneaa
open Go Go.RowKit Sl Go.Shelf
set_option maxHeartbeats 20000000
set_option maxRecDepth 8000

abbrev keysFn (bk : Nat) : Value := .func (.func 69) #[] #[.pointer (some ⟨bk, 0, none⟩)]

theorem keysC_spec {w0 w : World} {L : List HP} {b : Nat} (hs : Sat w0 w L) :
    Calls Try.prog 50 #[.map (some b)] w (fun e w' => ∃ bk, e = .returned (keysFn bk) ∧ Sat w0 w' (blk bk (.cells #[.map (some b)] 72 (0, 0)) :: L)) := by
  go_enter Try.func50, Try.ntmps50
  refine wk_seq (fun K0 hK0 => ?_); refine wk_reg ?_; refine pl_eff rfl (fun Kp hKp => ?_); ((with_reducible apply st_box); assumption; (go_simp; rfl); intro b1 w1 hs1; simp only [Value.cells] at hs1); refine hKp.out _ _ ?_; clear hKp Kp; (try simp only [Act.put, aP, aZ, aS]); refine pl_take (v := ?_) rfl ?_ ?_; rotate_left; (· (go_simp; first | done | with_reducible rfl | rfl | omega | assumption | (simp; omega))); (try simp only [Act.put, aP, aZ, aS]); refine pl_done ?_; refine hK0.out _ _ ?_; (try clear hK0 K0); refine wk_seq (fun K1 hK1 => ?_); refine wk_reg ?_; (iterate 2 (refine pl_take (v := ?_) rfl ?_ ?_; rotate_left; (· (go_simp; first | done | with_reducible rfl | rfl | omega | assumption | (simp; omega))); (try simp only [Act.put, aP, aZ, aS]))); refine pl_done ?_; refine hK1.out _ _ ?_; (try clear hK1 K1); refine wp_ret ?_
  go_ret
  exact ⟨b1, rfl, (by assumption : Sat w0 _ _).pick (by (repeat (first | exact Pick.nil _ | exact Pick.tail _ | exact Out.here _ | apply Out.there | apply Pick.cons | apply Pick.drop)))⟩

theorem sessionsMR_spec {w0 w : World} {L : List HP} {p : Nat} {M : Mc} (hl : M.ss.length ≤ 1048576) (hs : Sat w0 w (MR p M :: L)) :
    Calls Try.prog 28 #[.pointer (some ⟨p, 0, none⟩)] w (fun e w' => ∃ (A : Option Addr) (c : Nat) (ss : List Int), ss.Perm (M.ss.map (·.1)) ∧ e = .returned (.slice A ss.length c) ∧ Sat w0 w' (own 3 1 A c ss.length (I8 (ss.mergeSort (fun x y => decide (x ≤ y)))) :: MR p M :: L)) := by
  obtain ⟨X, cx, bm, ys, bs, hys, hbs, hs1⟩ := MR.opened hs
  clear hs
  have hlb : (seMap bs).length ≤ 1048576 := by rw [← hbs] at hl; simpa [seMap, seStrip] using hl
  have hkeys : (seMap bs).map (·.1) = M.ss.map (·.1) := by rw [← hbs]; simp [seMap, seStrip]
  go_enter Try.func28, Try.ntmps28
  refine wk_seq (fun K0 hK0 => ?_); refine wk_reg ?_; refine pl_take (v := ?_) rfl ?_ ?_; rotate_left; (· (go_simp; first | done | with_reducible rfl | rfl | omega | assumption | (simp; omega))); (try simp only [Act.put, aP, aZ, aS]); refine pl_done ?_; refine hK0.out _ _ ?_; (try clear hK0 K0); refine wk_seq (fun K1 hK1 => ?_); refine wk_seq (fun K2 hK2 => ?_); refine wk_reg ?_; refine pl_take (v := ?_) rfl ?_ ?_; rotate_left; (· (go_simp; first | done | with_reducible rfl | rfl | omega | assumption | (simp; omega))); (try simp only [Act.put, aP, aZ, aS]); refine pl_eff rfl (fun Kp hKp => ?_); go_simp; (refine (noneM_spec (b := bm) (by assumption) (by (repeat (first | with_reducible assumption | ((with_reducible apply Cl.own); exact rfl) | ((with_reducible apply Cl.blkL); exact rfl) | with_reducible apply Cl.cons)))).mono ?_; rintro e4 w4 ⟨rfl, hs4⟩); (try go_wp2_with fail); refine hKp.out _ _ ?_; clear hKp Kp; (try simp only [Act.put, aP, aZ, aS]); refine pl_done ?_; refine hK2.out _ _ ?_; (try clear hK2 K2); refine wp_cond_false rfl ?_; refine wp_skip ?_; refine hK1.out _ _ ?_; (try clear hK1 K1); refine wk_seq (fun K4 hK4 => ?_); refine wk_reg ?_; (iterate 4 (refine pl_take (v := ?_) rfl ?_ ?_; rotate_left; (· (first | ((with_reducible apply yl_load); assumption; rfl; (repeat (first | with_reducible assumption | ((with_reducible apply Cl.own); exact rfl) | ((with_reducible apply Cl.blkL); exact rfl) | with_reducible apply Cl.cons)); rfl) | (go_simp; first | done | with_reducible rfl | rfl | omega | assumption | (simp; omega)))); (try simp only [Act.put, aP, aZ, aS]))); refine pl_eff rfl (fun Kp hKp => ?_); go_simp; (refine (keysC_spec (by assumption)).mono ?_; rintro e9 w9 ⟨bk, rfl, hs9⟩); (try go_wp2_with fail); refine hKp.out _ _ ?_; clear hKp Kp; (try simp only [Act.put, aP, aZ, aS]); refine pl_eff rfl (fun Kp hKp => ?_); go_simp; (refine (sortedKeys_spec hlb ((by assumption : Sat w0 _ _).pick (.cons (by (repeat (first | with_reducible exact Out.here _ | apply Out.there))) (.cons (by (repeat (first | with_reducible exact Out.here _ | apply Out.there))) (.tail _))))).mono ?_; rintro e10 w10 ⟨A, c, ss, hp, rfl, hs10⟩); (try go_wp2_with fail); refine hKp.out _ _ ?_; clear hKp Kp; (try simp only [Act.put, aP, aZ, aS]); refine pl_take (v := ?_) rfl ?_ ?_; rotate_left; (· (go_simp; first | done | with_reducible rfl | rfl | omega | assumption | (simp; omega))); (try simp only [Act.put, aP, aZ, aS]); refine pl_done ?_; refine hK4.out _ _ ?_; (try clear hK4 K4); refine wp_ret ?_
  go_ret
  exact ⟨A, c, ss, by rw [← hkeys]; exact hp, rfl, (MR.made (L := own 3 1 A c ss.length (I8 (ss.mergeSort (fun x y => decide (x ≤ y)))) :: L) hys hbs ((by assumption : Sat w0 _ _).pick (by (repeat (first | exact Pick.nil _ | exact Pick.tail _ | exact Out.here _ | apply Out.there | apply Pick.cons | apply Pick.drop))))).pick (by (repeat (first | exact Pick.nil _ | exact Pick.tail _ | exact Out.here _ | apply Out.there | apply Pick.cons | apply Pick.drop)))⟩
end Go.Proofs.Ytdlimjcidblneaa
