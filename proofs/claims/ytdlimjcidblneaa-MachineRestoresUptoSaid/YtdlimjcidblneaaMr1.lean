/-
  The machine: Read, Start.
-/
import Derived.Test.YtdlimjcidblneaaMc8
namespace Go.Proofs.Ytdlimjcidblneaa
open Go Go.RowKit Sl Go.Shelf
set_option maxHeartbeats 20000000
set_option maxRecDepth 8000

/-- What is read. -/
def Mc.read (M : Mc) (fr n : Int) : List (List UInt8) × Int :=
  if fr < M.st then ([], 36) else if M.st + M.l.length < fr then ([], 11) else ((M.l.drop (fr - M.st).toNat).take n.toNat, 0)

/-- It has returned lists of bytes, in memory of its own. -/
def RetBB (w0 : World) (L : List HP) (x : List (List UInt8) × Int) (e : Ending) (w' : World) : Prop :=
  ∃ (X : Option Addr) (cx n : Nat) (zs : List RecRow), Hid (zs.map (·.1) = x.1) ∧ Hid (n = zs.length) ∧ e = .returned (.tuple #[.slice X n cx, .int .i64 x.2]) ∧ Sat w0 w' (own 33 1 X cx n (recCells zs) :: DV (recData zs) :: L)

theorem RetBB.nil {w0 w : World} {L : List HP} (err : Int) (hs : Sat w0 w L) : RetBB w0 L ([], err) (.returned (.tuple #[.slice none 0 0, .int .i64 err])) w :=
  ⟨none, 0, 0, [], rfl, rfl, rfl, (hs.dv_nil).own_nil 33 1⟩

theorem startMR_spec {w0 w : World} {L : List HP} {p : Nat} {M : Mc} (hs : Sat w0 w (MR p M :: L)) :
    Calls Try.prog 27 #[.pointer (some ⟨p, 0, none⟩)] w (fun e w' => e = .returned (.int .i64 M.st) ∧ Sat w0 w' (MR p M :: L)) := by
  obtain ⟨X, cx, bm, ys, bs, hys, hbs, hs1⟩ := MR.opened hs
  clear hs
  go_enter Try.func27, Try.ntmps27
  refine wk_seq (fun K0 hK0 => ?_); refine wk_reg ?_; refine pl_take (v := ?_) rfl ?_ ?_; rotate_left; (· (go_simp; first | done | with_reducible rfl | rfl | omega | assumption | (simp; omega))); (try simp only [Act.put, aP, aZ, aS]); refine pl_done ?_; refine hK0.out _ _ ?_; (try clear hK0 K0); refine wk_seq (fun K1 hK1 => ?_); refine wk_seq (fun K2 hK2 => ?_); refine wk_reg ?_; refine pl_take (v := ?_) rfl ?_ ?_; rotate_left; (· (go_simp; first | done | with_reducible rfl | rfl | omega | assumption | (simp; omega))); (try simp only [Act.put, aP, aZ, aS]); refine pl_eff rfl (fun Kp hKp => ?_); go_simp; (refine (noneM_spec (b := bm) (by assumption) (by (repeat (first | with_reducible assumption | ((with_reducible apply Cl.own); exact rfl) | ((with_reducible apply Cl.blkL); exact rfl) | with_reducible apply Cl.cons)))).mono ?_; rintro e4 w4 ⟨rfl, hs4⟩); (try go_wp2_with fail); refine hKp.out _ _ ?_; clear hKp Kp; (try simp only [Act.put, aP, aZ, aS]); refine pl_done ?_; refine hK2.out _ _ ?_; (try clear hK2 K2); refine wp_cond_false rfl ?_; refine wp_skip ?_; refine hK1.out _ _ ?_; (try clear hK1 K1); refine wk_seq (fun K4 hK4 => ?_); refine wk_reg ?_; (iterate 5 (refine pl_take (v := ?_) rfl ?_ ?_; rotate_left; (· (first | ((with_reducible apply yl_load); assumption; rfl; (repeat (first | with_reducible assumption | ((with_reducible apply Cl.own); exact rfl) | ((with_reducible apply Cl.blkL); exact rfl) | with_reducible apply Cl.cons)); rfl) | (go_simp; first | done | with_reducible rfl | rfl | omega | assumption | (simp; omega)))); (try simp only [Act.put, aP, aZ, aS]))); refine pl_done ?_; refine hK4.out _ _ ?_; (try clear hK4 K4); refine wp_ret ?_
  go_ret
  exact ⟨rfl, MR.made hys hbs ((by assumption : Sat w0 _ _).pick (by (repeat (first | exact Pick.nil _ | exact Pick.tail _ | exact Out.here _ | apply Out.there | apply Pick.cons | apply Pick.drop))))⟩

theorem appliedMR_spec {w0 w : World} {L : List HP} {p : Nat} {M : Mc} (hs : Sat w0 w (MR p M :: L)) :
    Calls Try.prog 35 #[.pointer (some ⟨p, 0, none⟩)] w (fun e w' => e = .returned (.int .i64 M.ap) ∧ Sat w0 w' (MR p M :: L)) := by
  obtain ⟨X, cx, bm, ys, bs, hys, hbs, hs1⟩ := MR.opened hs
  clear hs
  go_enter Try.func35, Try.ntmps35
  refine wk_seq (fun K0 hK0 => ?_); refine wk_reg ?_; refine pl_take (v := ?_) rfl ?_ ?_; rotate_left; (· (go_simp; first | done | with_reducible rfl | rfl | omega | assumption | (simp; omega))); (try simp only [Act.put, aP, aZ, aS]); refine pl_done ?_; refine hK0.out _ _ ?_; (try clear hK0 K0); refine wk_seq (fun K1 hK1 => ?_); refine wk_seq (fun K2 hK2 => ?_); refine wk_reg ?_; refine pl_take (v := ?_) rfl ?_ ?_; rotate_left; (· (go_simp; first | done | with_reducible rfl | rfl | omega | assumption | (simp; omega))); (try simp only [Act.put, aP, aZ, aS]); refine pl_eff rfl (fun Kp hKp => ?_); go_simp; (refine (noneM_spec (b := bm) (by assumption) (by (repeat (first | with_reducible assumption | ((with_reducible apply Cl.own); exact rfl) | ((with_reducible apply Cl.blkL); exact rfl) | with_reducible apply Cl.cons)))).mono ?_; rintro e4 w4 ⟨rfl, hs4⟩); (try go_wp2_with fail); refine hKp.out _ _ ?_; clear hKp Kp; (try simp only [Act.put, aP, aZ, aS]); refine pl_done ?_; refine hK2.out _ _ ?_; (try clear hK2 K2); refine wp_cond_false rfl ?_; refine wp_skip ?_; refine hK1.out _ _ ?_; (try clear hK1 K1); refine wk_seq (fun K4 hK4 => ?_); refine wk_reg ?_; (iterate 5 (refine pl_take (v := ?_) rfl ?_ ?_; rotate_left; (· (first | ((with_reducible apply yl_load); assumption; rfl; (repeat (first | with_reducible assumption | ((with_reducible apply Cl.own); exact rfl) | ((with_reducible apply Cl.blkL); exact rfl) | with_reducible apply Cl.cons)); rfl) | (go_simp; first | done | with_reducible rfl | rfl | omega | assumption | (simp; omega)))); (try simp only [Act.put, aP, aZ, aS]))); refine pl_done ?_; refine hK4.out _ _ ?_; (try clear hK4 K4); refine wp_ret ?_
  go_ret
  exact ⟨rfl, MR.made hys hbs ((by assumption : Sat w0 _ _).pick (by (repeat (first | exact Pick.nil _ | exact Pick.tail _ | exact Out.here _ | apply Out.there | apply Pick.cons | apply Pick.drop))))⟩

theorem recCells_snoc (zs : List RecRow) (z : RecRow) : recCells (zs ++ [z]) = recCells zs ++ [.slice z.2.1 z.1.length z.2.2] := by simp [recCells]
theorem recData_snoc (zs : List RecRow) (z : RecRow) : recData (zs ++ [z]) = recData zs ++ [(z.2.1, z.1)] := by simp [recData]

end Go.Proofs.Ytdlimjcidblneaa
