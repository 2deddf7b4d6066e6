/-
  The disk: the fuse, the changes' closures, change.
-/
import Derived.Test.YtiofgdgmlnhekaaVd4
import Derived.WalkArith
namespace Go.Proofs.Ytiofgdgmlnhekaa
open Go Go.RowKit Sl Go.Shelf Go.Maps
set_option maxHeartbeats 20000000
set_option maxRecDepth 8000

theorem use_spec {w0 w : World} {L : List HP} {p bn bs n cx : Nat} {X : Option Addr} (D : VD) (hf : -1 ≤ D.fuse ∧ D.fuse ≤ 9223372036854775807) (hs : Sat w0 w (dkBlk p D.q D.fuse D.off bn bs X n cx :: L)) :
    Calls Try.prog 30 #[.pointer (some ⟨p, 0, none⟩)] w (fun e w' => e = .returned (.bool D.useB) ∧ Sat w0 w' (dkBlk p D.use.q D.use.fuse D.use.off bn bs X n cx :: L)) := by
  obtain ⟨q, fs, now, sure, ch, fuse, off⟩ := D
  simp only at hf hs
  cases off
  · by_cases h0 : fuse = 0
    · subst h0
      have e1 : VD.useB ⟨q, fs, now, sure, ch, 0, false⟩ = false := rfl
      have e2 : VD.use ⟨q, fs, now, sure, ch, 0, false⟩ = ⟨q, fs, now, sure, ch, 0, true⟩ := rfl
      rw [e1, e2]
      clear e1 e2
      go_enter Try.func30, Try.ntmps30
      refine wk_seq (fun K0 hK0 => ?_); refine wk_reg ?_; refine pl_take (v := .bool false) rfl ?_ ?_; (· (go_simp; first | done | with_reducible rfl | rfl | omega | assumption | (simp; omega))); (try simp only [Act.put, aP, aZ, aS]); refine pl_done ?_; refine hK0.out _ _ ?_; (try clear hK0 K0); refine wk_seq (fun K1 hK1 => ?_); refine wk_reg ?_; (iterate 5 (refine pl_take (v := ?_) rfl ?_ ?_; rotate_left; (· (first | ((with_reducible apply yl_load); assumption; rfl; (repeat (first | with_reducible assumption | ((with_reducible apply Cl.own); exact rfl) | ((with_reducible apply Cl.blkL); exact rfl) | with_reducible apply Cl.cons)); rfl) | (go_simp; first | done | with_reducible rfl | rfl | omega | assumption | (simp; omega)))); (try simp only [Act.put, aP, aZ, aS]))); refine pl_take (v := .bool false) rfl ?_ ?_; (· (go_simp; first | done | with_reducible rfl | rfl | omega | assumption | (simp; omega))); (try simp only [Act.put, aP, aZ, aS]); (iterate 4 (refine pl_take (v := ?_) (by kernel_rfl) ?_ ?_; rotate_left; (· (first | ((with_reducible apply yl_load); assumption; rfl; (repeat (first | with_reducible assumption | ((with_reducible apply Cl.own); exact rfl) | ((with_reducible apply Cl.blkL); exact rfl) | with_reducible apply Cl.cons)); rfl) | (go_simp; first | done | with_reducible rfl | rfl | omega | assumption | (simp; omega)))); (try simp only [Act.put, aP, aZ, aS]))); refine pl_take (v := .bool true) (by kernel_rfl) ?_ ?_; (· (go_simp; first | done | with_reducible rfl | rfl | omega | assumption | (simp; omega))); (try simp only [Act.put, aP, aZ, aS]); refine pl_take (v := .bool true) rfl ?_ ?_; (· (go_simp; first | done | with_reducible rfl | rfl | omega | assumption | (simp; omega))); (try simp only [Act.put, aP, aZ, aS]); (iterate 2 (refine pl_take (v := ?_) rfl ?_ ?_; rotate_left; (· (go_simp; first | done | with_reducible rfl | rfl | omega | assumption | (simp; omega))); (try simp only [Act.put, aP, aZ, aS]))); refine pl_eff rfl (fun Kp hKp => ?_); (first | ((with_reducible apply st_store1); assumption; rfl; (go_simp; rfl); (repeat (first | with_reducible exact Out.here _ | apply Out.there)); rfl; rfl; simp; intro wr1_14 hsr1_14; (try simp only [aP] at hsr1_14); (try simp only [aS] at hsr1_14); (try simp only [aZ] at hsr1_14)) | ((with_reducible apply st_store_own); assumption; rfl; (go_simp; rfl); (repeat (first | with_reducible exact Out.here _ | apply Out.there)); rfl; rfl; omega; intro wr1_14 hsr1_14)); refine hKp.out _ _ ?_; clear hKp Kp; (try dsimp only [Act.put]); refine pl_done ?_; refine hK1.out _ _ ?_; (try clear hK1 K1); refine wk_seq (fun K2 hK2 => ?_); refine wk_seq (fun K3 hK3 => ?_); refine wk_reg ?_; (iterate 3 (refine pl_take (v := ?_) rfl ?_ ?_; rotate_left; (· (go_simp; first | done | with_reducible rfl | rfl | omega | assumption | (simp; omega))); (try simp only [Act.put, aP, aZ, aS]))); refine pl_take (v := .bool true) rfl ?_ ?_; (· ((with_reducible apply yl_load); assumption; rfl; (repeat (first | with_reducible assumption | ((with_reducible apply Cl.own); exact rfl) | ((with_reducible apply Cl.blkL); exact rfl) | with_reducible apply Cl.cons)); rfl)); (try simp only [Act.put, aP, aZ, aS]); refine pl_done ?_; refine hK3.out _ _ ?_; (try clear hK3 K3); refine wp_cond_true rfl ?_; refine wk_seq (fun K4 hK4 => ?_); refine wk_reg ?_; refine pl_take (v := .bool false) rfl ?_ ?_; (· (go_simp; first | done | with_reducible rfl | rfl | omega | assumption | (simp; omega))); (try simp only [Act.put, aP, aZ, aS]); refine pl_done ?_; refine hK4.out _ _ ?_; (try clear hK4 K4); refine wp_ret ?_
      go_ret
      exact ⟨rfl, (by assumption : Sat w0 _ _).pick (by (repeat (first | exact Pick.nil _ | exact Pick.tail _ | exact Out.here _ | apply Out.there | apply Pick.cons | apply Pick.drop)))⟩
    · have e1 : VD.useB ⟨q, fs, now, sure, ch, fuse, false⟩ = true := by simp [VD.useB, h0]
      have e2 : VD.use ⟨q, fs, now, sure, ch, fuse, false⟩ = ⟨q, fs, now, sure, ch, max (fuse - 1) (-1), false⟩ := by unfold VD.use; rw [e1]; rfl
      rw [e1, e2]
      clear e1 e2
      have hwk : IntKind.i64.wrap (fuse - 1) = fuse - 1 := IntWalk.i64_in _ (by omega)
      go_enter Try.func30, Try.ntmps30
      refine wk_seq (fun K0 hK0 => ?_); refine wk_reg ?_; refine pl_take (v := .bool false) rfl ?_ ?_; (· (go_simp; first | done | with_reducible rfl | rfl | omega | assumption | (simp; omega))); (try simp only [Act.put, aP, aZ, aS]); refine pl_done ?_; refine hK0.out _ _ ?_; (try clear hK0 K0); refine wk_seq (fun K1 hK1 => ?_); refine wk_reg ?_; (iterate 5 (refine pl_take (v := ?_) rfl ?_ ?_; rotate_left; (· (first | ((with_reducible apply yl_load); assumption; rfl; (repeat (first | with_reducible assumption | ((with_reducible apply Cl.own); exact rfl) | ((with_reducible apply Cl.blkL); exact rfl) | with_reducible apply Cl.cons)); rfl) | (go_simp; first | done | with_reducible rfl | rfl | omega | assumption | (simp; omega)))); (try simp only [Act.put, aP, aZ, aS]))); refine pl_take (v := .bool false) rfl ?_ ?_; (· (go_simp; first | done | with_reducible rfl | rfl | omega | assumption | (simp; omega))); (try simp only [Act.put, aP, aZ, aS]); (iterate 4 (refine pl_take (v := ?_) (by kernel_rfl) ?_ ?_; rotate_left; (· (first | ((with_reducible apply yl_load); assumption; rfl; (repeat (first | with_reducible assumption | ((with_reducible apply Cl.own); exact rfl) | ((with_reducible apply Cl.blkL); exact rfl) | with_reducible apply Cl.cons)); rfl) | (go_simp; first | done | with_reducible rfl | rfl | omega | assumption | (simp; omega)))); (try simp only [Act.put, aP, aZ, aS]))); refine pl_take (v := .bool false) (by kernel_rfl) ?_ ?_; (· (go_simp; first | done | with_reducible rfl | rfl | omega | assumption | (simp; omega))); (try simp only [Act.put, aP, aZ, aS]); refine pl_take (v := .bool false) rfl ?_ ?_; (· (go_simp; first | done | with_reducible rfl | rfl | omega | assumption | (simp; omega))); (try simp only [Act.put, aP, aZ, aS]); (iterate 2 (refine pl_take (v := ?_) rfl ?_ ?_; rotate_left; (· (go_simp; first | done | with_reducible rfl | rfl | omega | assumption | (simp; omega))); (try simp only [Act.put, aP, aZ, aS]))); refine pl_eff rfl (fun Kp hKp => ?_); (first | ((with_reducible apply st_store1); assumption; rfl; (go_simp; rfl); (repeat (first | with_reducible exact Out.here _ | apply Out.there)); rfl; rfl; simp; intro wr1_14 hsr1_14; (try simp only [aP] at hsr1_14); (try simp only [aS] at hsr1_14); (try simp only [aZ] at hsr1_14)) | ((with_reducible apply st_store_own); assumption; rfl; (go_simp; rfl); (repeat (first | with_reducible exact Out.here _ | apply Out.there)); rfl; rfl; omega; intro wr1_14 hsr1_14)); refine hKp.out _ _ ?_; clear hKp Kp; (try dsimp only [Act.put]); refine pl_done ?_; refine hK1.out _ _ ?_; (try clear hK1 K1); refine wk_seq (fun K2 hK2 => ?_); refine wk_seq (fun K3 hK3 => ?_); refine wk_reg ?_; (iterate 3 (refine pl_take (v := ?_) rfl ?_ ?_; rotate_left; (· (go_simp; first | done | with_reducible rfl | rfl | omega | assumption | (simp; omega))); (try simp only [Act.put, aP, aZ, aS]))); refine pl_take (v := .bool false) rfl ?_ ?_; (· ((with_reducible apply yl_load); assumption; rfl; (repeat (first | with_reducible assumption | ((with_reducible apply Cl.own); exact rfl) | ((with_reducible apply Cl.blkL); exact rfl) | with_reducible apply Cl.cons)); rfl)); (try simp only [Act.put, aP, aZ, aS]); refine pl_done ?_; refine hK3.out _ _ ?_; (try clear hK3 K3); refine wp_cond_false rfl ?_; refine wp_skip ?_; refine hK2.out _ _ ?_; (try clear hK2 K2); refine wk_seq (fun K5 hK5 => ?_); refine wk_reg ?_; (iterate 9 (refine pl_take (v := ?_) rfl ?_ ?_; rotate_left; (· (first | ((with_reducible apply yl_load); assumption; rfl; (repeat (first | with_reducible assumption | ((with_reducible apply Cl.own); exact rfl) | ((with_reducible apply Cl.blkL); exact rfl) | with_reducible apply Cl.cons)); rfl) | (go_simp; first | done | with_reducible rfl | rfl | omega | assumption | (simp; omega)))); (try simp only [Act.put, aP, aZ, aS]))); refine pl_eff rfl (fun Kp hKp => ?_); (first | ((with_reducible apply st_store1); assumption; rfl; (go_simp; rfl); (repeat (first | with_reducible exact Out.here _ | apply Out.there)); rfl; rfl; simp; intro wr4_9 hsr4_9; (try simp only [aP] at hsr4_9); (try simp only [aS] at hsr4_9); (try simp only [aZ] at hsr4_9)) | ((with_reducible apply st_store_own); assumption; rfl; (go_simp; rfl); (repeat (first | with_reducible exact Out.here _ | apply Out.there)); rfl; rfl; omega; intro wr4_9 hsr4_9)); refine hKp.out _ _ ?_; clear hKp Kp; (try dsimp only [Act.put]); refine pl_done ?_; refine hK5.out _ _ ?_; (try clear hK5 K5); refine wk_seq (fun K6 hK6 => ?_); refine wk_reg ?_; refine pl_take (v := .bool true) rfl ?_ ?_; (· (go_simp; first | done | with_reducible rfl | rfl | omega | assumption | (simp; omega))); (try simp only [Act.put, aP, aZ, aS]); refine pl_done ?_; refine hK6.out _ _ ?_; (try clear hK6 K6); refine wp_ret ?_
      go_ret
      exact ⟨rfl, (by assumption : Sat w0 _ _).pick (by (repeat (first | exact Pick.nil _ | exact Pick.tail _ | exact Out.here _ | apply Out.there | apply Pick.cons | apply Pick.drop)))⟩
  · have e1 : VD.useB ⟨q, fs, now, sure, ch, fuse, true⟩ = false := rfl
    have e2 : VD.use ⟨q, fs, now, sure, ch, fuse, true⟩ = ⟨q, fs, now, sure, ch, fuse, true⟩ := rfl
    rw [e1, e2]
    clear e1 e2
    go_enter Try.func30, Try.ntmps30
    refine wk_seq (fun K0 hK0 => ?_); refine wk_reg ?_; refine pl_take (v := .bool false) rfl ?_ ?_; (· (go_simp; first | done | with_reducible rfl | rfl | omega | assumption | (simp; omega))); (try simp only [Act.put, aP, aZ, aS]); refine pl_done ?_; refine hK0.out _ _ ?_; (try clear hK0 K0); refine wk_seq (fun K1 hK1 => ?_); refine wk_reg ?_; (iterate 5 (refine pl_take (v := ?_) rfl ?_ ?_; rotate_left; (· (first | ((with_reducible apply yl_load); assumption; rfl; (repeat (first | with_reducible assumption | ((with_reducible apply Cl.own); exact rfl) | ((with_reducible apply Cl.blkL); exact rfl) | with_reducible apply Cl.cons)); rfl) | (go_simp; first | done | with_reducible rfl | rfl | omega | assumption | (simp; omega)))); (try simp only [Act.put, aP, aZ, aS]))); refine pl_take (v := .bool true) rfl ?_ ?_; (· (go_simp; first | done | with_reducible rfl | rfl | omega | assumption | (simp; omega))); (try simp only [Act.put, aP, aZ, aS]); (iterate 5 (refine pl_skip (by kernel_rfl) ?_; (try simp only [Act.put, aP, aZ, aS]))); refine pl_take (v := .bool true) rfl ?_ ?_; (· (go_simp; first | done | with_reducible rfl | rfl | omega | assumption | (simp; omega))); (try simp only [Act.put, aP, aZ, aS]); (iterate 2 (refine pl_take (v := ?_) rfl ?_ ?_; rotate_left; (· (go_simp; first | done | with_reducible rfl | rfl | omega | assumption | (simp; omega))); (try simp only [Act.put, aP, aZ, aS]))); refine pl_eff rfl (fun Kp hKp => ?_); (first | ((with_reducible apply st_store1); assumption; rfl; (go_simp; rfl); (repeat (first | with_reducible exact Out.here _ | apply Out.there)); rfl; rfl; simp; intro wr1_14 hsr1_14; (try simp only [aP] at hsr1_14); (try simp only [aS] at hsr1_14); (try simp only [aZ] at hsr1_14)) | ((with_reducible apply st_store_own); assumption; rfl; (go_simp; rfl); (repeat (first | with_reducible exact Out.here _ | apply Out.there)); rfl; rfl; omega; intro wr1_14 hsr1_14)); refine hKp.out _ _ ?_; clear hKp Kp; (try dsimp only [Act.put]); refine pl_done ?_; refine hK1.out _ _ ?_; (try clear hK1 K1); refine wk_seq (fun K2 hK2 => ?_); refine wk_seq (fun K3 hK3 => ?_); refine wk_reg ?_; (iterate 3 (refine pl_take (v := ?_) rfl ?_ ?_; rotate_left; (· (go_simp; first | done | with_reducible rfl | rfl | omega | assumption | (simp; omega))); (try simp only [Act.put, aP, aZ, aS]))); refine pl_take (v := .bool true) rfl ?_ ?_; (· ((with_reducible apply yl_load); assumption; rfl; (repeat (first | with_reducible assumption | ((with_reducible apply Cl.own); exact rfl) | ((with_reducible apply Cl.blkL); exact rfl) | with_reducible apply Cl.cons)); rfl)); (try simp only [Act.put, aP, aZ, aS]); refine pl_done ?_; refine hK3.out _ _ ?_; (try clear hK3 K3); refine wp_cond_true rfl ?_; refine wk_seq (fun K4 hK4 => ?_); refine wk_reg ?_; refine pl_take (v := .bool false) rfl ?_ ?_; (· (go_simp; first | done | with_reducible rfl | rfl | omega | assumption | (simp; omega))); (try simp only [Act.put, aP, aZ, aS]); refine pl_done ?_; refine hK4.out _ _ ?_; (try clear hK4 K4); refine wp_ret ?_
    go_ret
    exact ⟨rfl, (by assumption : Sat w0 _ _).pick (by (repeat (first | exact Pick.nil _ | exact Pick.tail _ | exact Out.here _ | apply Out.there | apply Pick.cons | apply Pick.drop)))⟩

/-- A change that is made. -/
def CRow.ok : CRow → Prop
  | .cr n _ _ _ _ => n.length ≤ 64
  | .re a b _ _ _ _ _ => a.length ≤ 64 ∧ b.length ≤ 64
  | .rm n _ => n.length ≤ 64

theorem rowV_spec {w0 w : World} {L : List HP} (c : CRow) {ad : Nat → Nat} {b : Nat} {d : Dr} (hat : c.at ad) (hok : c.ok) (hs : Sat w0 w (mp sV okS b (dirV ad d) :: c.hp :: L)) :
    Calls Try.prog c.fn (#[.map (some b)] ++ c.caps) w (fun e w' => e = .returned (.tuple #[]) ∧ Sat w0 w' (mp sV okS b (dirV ad (c.chg.on d)) :: c.hp :: L)) := by
  cases c with
  | cr n f fa bf bn =>
    have hn : okS n := hok
    have hp := dirV_put ad d n f
    have h1 : Sat w0 w (fBox bf fa :: nBox bn n :: mp sV okS b (dirV ad d) :: L) := hs.swap.split
    rw [show fa = ad f from hat] at h1 ⊢
    simp only [CRow.fn, CRow.caps, CRow.chg, Chg.on, CRow.hp, pV, List.append_toArray, List.cons_append, List.nil_append]
    clear hs hat
    suffices H : Calls Try.prog 26 #[.map (some b), .pointer (some ⟨bf, 0, none⟩), .pointer (some ⟨bn, 0, none⟩)] w (fun e w' => e = .returned (.tuple #[]) ∧ Sat w0 w' (mp sV okS b (dirV ad (dput d n f)) :: fBox bf (ad f) :: nBox bn n :: L)) by
      refine H.mono ?_
      rintro e w' ⟨he, h2⟩
      exact ⟨he, (Sat.join (M := [fBox bf (ad f), nBox bn n]) (h2.pick (T := [fBox bf (ad f), nBox bn n] ++ mp sV okS b (dirV ad (dput d n f)) :: L) (by (repeat (first | exact Pick.nil _ | exact Pick.tail _ | exact Out.here _ | apply Out.there | apply Pick.cons | apply Pick.drop))))).swap⟩
    rw [← hp]
    clear hp
    go_enter Try.func26, Try.ntmps26
    refine wk_reg ?_; (iterate 3 (refine pl_take (v := ?_) rfl ?_ ?_; rotate_left; (· (first | ((with_reducible apply yl_load); assumption; rfl; (repeat (first | with_reducible assumption | ((with_reducible apply Cl.own); exact rfl) | ((with_reducible apply Cl.blkL); exact rfl) | with_reducible apply Cl.cons)); rfl) | (go_simp; first | done | with_reducible rfl | rfl | omega | assumption | (simp; omega)))); (try simp only [Act.put, aP, aZ, aS]))); refine pl_eff rfl (fun Kp hKp => ?_); ((with_reducible apply st_mapUpdate (xk := n) ktS); assumption; rfl; rfl; (go_simp; rfl); (repeat (first | with_reducible exact Out.here _ | apply Out.there)); exact hn; intro wr0_3 hsr0_3); refine hKp.out _ _ ?_; clear hKp Kp; (try dsimp only [Act.put]); refine pl_done ?_
    -- the end
    go_end0
    exact ⟨rfl, (by assumption : Sat w0 _ _).pick (by (repeat (first | exact Pick.nil _ | exact Pick.tail _ | exact Out.here _ | apply Out.there | apply Pick.cons | apply Pick.drop)))⟩
  | re x y f fa ba bf bb =>
    have hx : okS x := hok.1
    have hy : okS y := hok.2
    have hp := dirV_put ad (ddel d x) y f
    have hd := dirV_del ad d x
    have h1 : Sat w0 w (nBox ba x :: fBox bf fa :: nBox bb y :: mp sV okS b (dirV ad d) :: L) := hs.swap.split
    rw [show fa = ad f from hat] at h1 ⊢
    simp only [CRow.fn, CRow.caps, CRow.chg, Chg.on, CRow.hp, pV, List.append_toArray, List.cons_append, List.nil_append]
    clear hs hat
    suffices H : Calls Try.prog 36 #[.map (some b), .pointer (some ⟨ba, 0, none⟩), .pointer (some ⟨bf, 0, none⟩), .pointer (some ⟨bb, 0, none⟩)] w (fun e w' => e = .returned (.tuple #[]) ∧ Sat w0 w' (mp sV okS b (dirV ad (dput (ddel d x) y f)) :: nBox ba x :: fBox bf (ad f) :: nBox bb y :: L)) by
      refine H.mono ?_
      rintro e w' ⟨he, h2⟩
      exact ⟨he, (Sat.join (M := [nBox ba x, fBox bf (ad f), nBox bb y]) (h2.pick (T := [nBox ba x, fBox bf (ad f), nBox bb y] ++ mp sV okS b (dirV ad (dput (ddel d x) y f)) :: L) (by (repeat (first | exact Pick.nil _ | exact Pick.tail _ | exact Out.here _ | apply Out.there | apply Pick.cons | apply Pick.drop))))).swap⟩
    rw [← hp, ← hd]
    clear hp hd
    go_enter Try.func36, Try.ntmps36
    refine wk_seq (fun K0 hK0 => ?_); refine wk_reg ?_; (iterate 2 (refine pl_take (v := ?_) rfl ?_ ?_; rotate_left; (· (first | ((with_reducible apply yl_load); assumption; rfl; (repeat (first | with_reducible assumption | ((with_reducible apply Cl.own); exact rfl) | ((with_reducible apply Cl.blkL); exact rfl) | with_reducible apply Cl.cons)); rfl) | (go_simp; first | done | with_reducible rfl | rfl | omega | assumption | (simp; omega)))); (try simp only [Act.put, aP, aZ, aS]))); refine pl_eff rfl (fun Kp hKp => ?_); ((with_reducible apply st_delete (xk := x) ktS); assumption; rfl; rfl; (repeat (first | with_reducible exact Out.here _ | apply Out.there)); exact hx; intro wr0_2 hsr0_2); refine hKp.out _ _ ?_; clear hKp Kp; (try dsimp only [Act.put]); refine pl_done ?_; refine hK0.out _ _ ?_; (try clear hK0 K0); refine wk_reg ?_; (iterate 3 (refine pl_take (v := ?_) rfl ?_ ?_; rotate_left; (· (first | ((with_reducible apply yl_load); assumption; rfl; (repeat (first | with_reducible assumption | ((with_reducible apply Cl.own); exact rfl) | ((with_reducible apply Cl.blkL); exact rfl) | with_reducible apply Cl.cons)); rfl) | (go_simp; first | done | with_reducible rfl | rfl | omega | assumption | (simp; omega)))); (try simp only [Act.put, aP, aZ, aS]))); refine pl_eff rfl (fun Kp hKp => ?_); ((with_reducible apply st_mapUpdate (xk := y) ktS); assumption; rfl; rfl; (go_simp; rfl); (repeat (first | with_reducible exact Out.here _ | apply Out.there)); exact hy; intro wr1_3 hsr1_3); refine hKp.out _ _ ?_; clear hKp Kp; (try dsimp only [Act.put]); refine pl_done ?_
    -- the end
    go_end0
    exact ⟨rfl, (by assumption : Sat w0 _ _).pick (by (repeat (first | exact Pick.nil _ | exact Pick.tail _ | exact Out.here _ | apply Out.there | apply Pick.cons | apply Pick.drop)))⟩
  | rm n bn =>
    have hn : okS n := hok
    have hd := dirV_del ad d n
    have h1 : Sat w0 w (nBox bn n :: mp sV okS b (dirV ad d) :: L) := hs.swap.split
    simp only [CRow.fn, CRow.caps, CRow.chg, Chg.on, CRow.hp, pV, List.append_toArray, List.cons_append, List.nil_append]
    clear hs hat
    suffices H : Calls Try.prog 37 #[.map (some b), .pointer (some ⟨bn, 0, none⟩)] w (fun e w' => e = .returned (.tuple #[]) ∧ Sat w0 w' (mp sV okS b (dirV ad (ddel d n)) :: nBox bn n :: L)) by
      refine H.mono ?_
      rintro e w' ⟨he, h2⟩
      exact ⟨he, (Sat.join (M := [nBox bn n]) (h2.pick (T := [nBox bn n] ++ mp sV okS b (dirV ad (ddel d n)) :: L) (by (repeat (first | exact Pick.nil _ | exact Pick.tail _ | exact Out.here _ | apply Out.there | apply Pick.cons | apply Pick.drop))))).swap⟩
    rw [← hd]
    clear hd
    go_enter Try.func37, Try.ntmps37
    refine wk_reg ?_; (iterate 2 (refine pl_take (v := ?_) rfl ?_ ?_; rotate_left; (· (first | ((with_reducible apply yl_load); assumption; rfl; (repeat (first | with_reducible assumption | ((with_reducible apply Cl.own); exact rfl) | ((with_reducible apply Cl.blkL); exact rfl) | with_reducible apply Cl.cons)); rfl) | (go_simp; first | done | with_reducible rfl | rfl | omega | assumption | (simp; omega)))); (try simp only [Act.put, aP, aZ, aS]))); refine pl_eff rfl (fun Kp hKp => ?_); ((with_reducible apply st_delete (xk := n) ktS); assumption; rfl; rfl; (repeat (first | with_reducible exact Out.here _ | apply Out.there)); exact hn; intro wr0_2 hsr0_2); refine hKp.out _ _ ?_; clear hKp Kp; (try dsimp only [Act.put]); refine pl_done ?_
    -- the end
    go_end0
    exact ⟨rfl, (by assumption : Sat w0 _ _).pick (by (repeat (first | exact Pick.nil _ | exact Pick.tail _ | exact Out.here _ | apply Out.there | apply Pick.cons | apply Pick.drop)))⟩

theorem row_calls (c : CRow) : ∀ args w, (callFunc c.fn args).run Try.prog w = .ok (.enter c.fn args) w := by
  intro args w
  cases c <;> rfl

theorem CRow.val_one (c : CRow) : c.val.oneCell' = true := rfl
end Go.Proofs.Ytiofgdgmlnhekaa
