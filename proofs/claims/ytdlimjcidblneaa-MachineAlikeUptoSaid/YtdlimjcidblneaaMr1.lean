/-
  The machine: Read, Start.
-/
import Derived.Test.YtdlimjcidblneaaMc8
namespace Go.Proofs.Ytdlimjcidblneaa
open Go Go.RowKit Sl Go.Shelf
set_option maxHeartbeats 20000000
set_option maxRecDepth 8000

/-- What is read. -/
def Mc.read (M : Mc) (fr n : Int) : List (List UInt8) × Int :=
  if fr < M.st then ([], 36) else if M.st + M.l.length < fr then ([], 11) else ((M.l.drop (fr - M.st).toNat).take n.toNat, 0)

/-- It has returned lists of bytes, in memory of its own. -/
def RetBB (w0 : World) (L : List HP) (x : List (List UInt8) × Int) (e : Ending) (w' : World) : Prop :=
  ∃ (X : Option Addr) (cx n : Nat) (zs : List RecRow), Hid (zs.map (·.1) = x.1) ∧ Hid (n = zs.length) ∧ e = .returned (.tuple #[.slice X n cx, .int .i64 x.2]) ∧ Sat w0 w' (own 33 1 X cx n (recCells zs) :: DV (recData zs) :: L)

theorem RetBB.nil {w0 w : World} {L : List HP} (err : Int) (hs : Sat w0 w L) : RetBB w0 L ([], err) (.returned (.tuple #[.slice none 0 0, .int .i64 err])) w :=
  ⟨none, 0, 0, [], rfl, rfl, rfl, (hs.dv_nil).own_nil 33 1⟩

theorem startMR_spec {w0 w : World} {L : List HP} {p : Nat} {M : Mc} (hs : Sat w0 w (MR p M :: L)) :
    Calls Try.prog 27 #[.pointer (some ⟨p, 0, none⟩)] w (fun e w' => e = .returned (.int .i64 M.st) ∧ Sat w0 w' (MR p M :: L)) := by
  obtain ⟨X, cx, bm, ys, bs, hys, hbs, hs1⟩ := MR.opened hs
  clear hs
  go_enter Try.func27, Try.ntmps27
  refine wk_seq (fun K0 hK0 => ?_)
  refine wk_reg ?_
  refine pl_take (v := ?_) rfl ?_ ?_
  rotate_left
  · (go_simp; first | done | with_reducible rfl | rfl | omega | assumption | (simp; omega))
  (try simp only [Act.put, aP, aZ, aS])
  refine pl_done ?_
  refine hK0.out _ _ ?_
  (try clear hK0 K0)
  refine wk_seq (fun K1 hK1 => ?_)
  refine wk_seq (fun K2 hK2 => ?_)
  refine wk_reg ?_
  refine pl_take (v := ?_) rfl ?_ ?_
  rotate_left
  · (go_simp; first | done | with_reducible rfl | rfl | omega | assumption | (simp; omega))
  (try simp only [Act.put, aP, aZ, aS])
  refine pl_eff rfl (fun Kp hKp => ?_)
  go_simp
  (refine (noneM_spec (b := bm) (by assumption) (by (repeat (first | with_reducible assumption | ((with_reducible apply Cl.own); exact rfl) | ((with_reducible apply Cl.blkL); exact rfl) | with_reducible apply Cl.cons)))).mono ?_; rintro e4 w4 ⟨rfl, hs4⟩)
  (try go_wp2_with fail)
  refine hKp.out _ _ ?_
  clear hKp Kp
  (try simp only [Act.put, aP, aZ, aS])
  refine pl_done ?_
  refine hK2.out _ _ ?_
  (try clear hK2 K2)
  refine wp_cond_false rfl ?_
  refine wp_skip ?_
  refine hK1.out _ _ ?_
  (try clear hK1 K1)
  refine wk_seq (fun K4 hK4 => ?_)
  refine wk_reg ?_
  iterate 5 (refine pl_take (v := ?_) rfl ?_ ?_; rotate_left; (· (first | ((with_reducible apply yl_load); assumption; rfl; (repeat (first | with_reducible assumption | ((with_reducible apply Cl.own); exact rfl) | ((with_reducible apply Cl.blkL); exact rfl) | with_reducible apply Cl.cons)); rfl) | (go_simp; first | done | with_reducible rfl | rfl | omega | assumption | (simp; omega)))); (try simp only [Act.put, aP, aZ, aS]))
  refine pl_done ?_
  refine hK4.out _ _ ?_
  (try clear hK4 K4)
  refine wp_ret ?_
  go_ret
  exact ⟨rfl, MR.made hys hbs ((by assumption : Sat w0 _ _).pick (by (repeat (first | exact Pick.nil _ | exact Pick.tail _ | exact Out.here _ | apply Out.there | apply Pick.cons | apply Pick.drop))))⟩

theorem appliedMR_spec {w0 w : World} {L : List HP} {p : Nat} {M : Mc} (hs : Sat w0 w (MR p M :: L)) :
    Calls Try.prog 35 #[.pointer (some ⟨p, 0, none⟩)] w (fun e w' => e = .returned (.int .i64 M.ap) ∧ Sat w0 w' (MR p M :: L)) := by
  obtain ⟨X, cx, bm, ys, bs, hys, hbs, hs1⟩ := MR.opened hs
  clear hs
  go_enter Try.func35, Try.ntmps35
  refine wk_seq (fun K0 hK0 => ?_)
  refine wk_reg ?_
  refine pl_take (v := ?_) rfl ?_ ?_
  rotate_left
  · (go_simp; first | done | with_reducible rfl | rfl | omega | assumption | (simp; omega))
  (try simp only [Act.put, aP, aZ, aS])
  refine pl_done ?_
  refine hK0.out _ _ ?_
  (try clear hK0 K0)
  refine wk_seq (fun K1 hK1 => ?_)
  refine wk_seq (fun K2 hK2 => ?_)
  refine wk_reg ?_
  refine pl_take (v := ?_) rfl ?_ ?_
  rotate_left
  · (go_simp; first | done | with_reducible rfl | rfl | omega | assumption | (simp; omega))
  (try simp only [Act.put, aP, aZ, aS])
  refine pl_eff rfl (fun Kp hKp => ?_)
  go_simp
  (refine (noneM_spec (b := bm) (by assumption) (by (repeat (first | with_reducible assumption | ((with_reducible apply Cl.own); exact rfl) | ((with_reducible apply Cl.blkL); exact rfl) | with_reducible apply Cl.cons)))).mono ?_; rintro e4 w4 ⟨rfl, hs4⟩)
  (try go_wp2_with fail)
  refine hKp.out _ _ ?_
  clear hKp Kp
  (try simp only [Act.put, aP, aZ, aS])
  refine pl_done ?_
  refine hK2.out _ _ ?_
  (try clear hK2 K2)
  refine wp_cond_false rfl ?_
  refine wp_skip ?_
  refine hK1.out _ _ ?_
  (try clear hK1 K1)
  refine wk_seq (fun K4 hK4 => ?_)
  refine wk_reg ?_
  iterate 5 (refine pl_take (v := ?_) rfl ?_ ?_; rotate_left; (· (first | ((with_reducible apply yl_load); assumption; rfl; (repeat (first | with_reducible assumption | ((with_reducible apply Cl.own); exact rfl) | ((with_reducible apply Cl.blkL); exact rfl) | with_reducible apply Cl.cons)); rfl) | (go_simp; first | done | with_reducible rfl | rfl | omega | assumption | (simp; omega)))); (try simp only [Act.put, aP, aZ, aS]))
  refine pl_done ?_
  refine hK4.out _ _ ?_
  (try clear hK4 K4)
  refine wp_ret ?_
  go_ret
  exact ⟨rfl, MR.made hys hbs ((by assumption : Sat w0 _ _).pick (by (repeat (first | exact Pick.nil _ | exact Pick.tail _ | exact Out.here _ | apply Out.there | apply Pick.cons | apply Pick.drop))))⟩

theorem recCells_snoc (zs : List RecRow) (z : RecRow) : recCells (zs ++ [z]) = recCells zs ++ [.slice z.2.1 z.1.length z.2.2] := by simp [recCells]
theorem recData_snoc (zs : List RecRow) (z : RecRow) : recData (zs ++ [z]) = recData zs ++ [(z.2.1, z.1)] := by simp [recData]

theorem readMR_spec {w0 w : World} {L : List HP} {p : Nat} {M : Mc} (fr n : Int) (hok : M.Ok) (hll : M.l.length ≤ 1099511627776) (hd : ∀ d ∈ M.l, d.length ≤ 1048576) (hs : Sat w0 w (MR p M :: L)) :
    Calls Try.prog 25 #[.pointer (some ⟨p, 0, none⟩), .int .i64 fr, .int .i64 n] w (RetBB w0 (MR p M :: L) (M.read fr n)) := by
  obtain ⟨X, cx, bm, ys, bs, hys, hbs, hs1⟩ := MR.opened hs
  clear hs
  obtain ⟨sp, ap, st, l, ss⟩ := M
  have h1 := hok.len
  have h2 := hok.ap
  have h3 := hok.st
  simp only at h1 h2 h3 hll hd hys hbs hs1
  have hNx := fun (w : World) (L' : List HP) (hs : Sat w0 w L') (h4 : Cl w0 L' ⟨p, 4, none⟩ (.map (some bm))) (h2' : Cl w0 L' ⟨p, 2, none⟩ (.int .i64 st)) (h3' : Cl w0 L' ⟨p, 3, none⟩ (.slice X l.length cx)) => nextM_spec (p := p) (n := l.length) h3 (by omega) hs h4 h2' h3'
  by_cases k1 : fr < st
  · rw [show Mc.read ⟨sp, ap, st, l, ss⟩ fr n = ([], 36) from by unfold Mc.read; rw [if_pos k1]]
    go_enter Try.func25, Try.ntmps25
    refine wk_seq (fun K0 hK0 => ?_)
    refine wk_reg ?_
    iterate 2 (refine pl_take (v := ?_) rfl ?_ ?_; rotate_left; (· (go_simp; first | done | with_reducible rfl | rfl | omega | assumption | (simp; omega))); (try simp only [Act.put, aP, aZ, aS]))
    refine pl_done ?_
    refine hK0.out _ _ ?_
    (try clear hK0 K0)
    refine wk_seq (fun K1 hK1 => ?_)
    refine wp_block ?_
    refine wk_seq (fun K2 hK2 => ?_)
    refine wk_reg ?_
    refine pl_take (v := ?_) rfl ?_ ?_
    rotate_left
    · (go_simp; first | done | with_reducible rfl | rfl | omega | assumption | (simp; omega))
    (try simp only [Act.put, aP, aZ, aS])
    refine pl_eff rfl (fun Kp hKp => ?_)
    go_simp
    (refine (noneM_spec (b := bm) (by assumption) (by (repeat (first | with_reducible assumption | ((with_reducible apply Cl.own); exact rfl) | ((with_reducible apply Cl.blkL); exact rfl) | with_reducible apply Cl.cons)))).mono ?_; rintro e13 w13 ⟨rfl, hs13⟩)
    (try go_wp2_with fail)
    refine hKp.out _ _ ?_
    clear hKp Kp
    (try simp only [Act.put, aP, aZ, aS])
    refine pl_take (v := .bool false) rfl ?_ ?_
    · (go_simp; first | done | with_reducible rfl | rfl | omega | assumption | (simp; omega))
    (try simp only [Act.put, aP, aZ, aS])
    refine pl_done ?_
    refine hK2.out _ _ ?_
    (try clear hK2 K2)
    refine wp_cond_false rfl ?_
    refine wk_seq (fun K4 hK4 => ?_)
    refine wk_reg ?_
    iterate 5 (refine pl_take (v := ?_) rfl ?_ ?_; rotate_left; (· (first | ((with_reducible apply yl_load); assumption; rfl; (repeat (first | with_reducible assumption | ((with_reducible apply Cl.own); exact rfl) | ((with_reducible apply Cl.blkL); exact rfl) | with_reducible apply Cl.cons)); rfl) | (go_simp; first | done | with_reducible rfl | rfl | omega | assumption | (simp; omega)))); (try simp only [Act.put, aP, aZ, aS]))
    iterate 2 (refine pl_take (v := .bool true) rfl ?_ ?_; (· (go_simp; first | done | with_reducible rfl | rfl | omega | assumption | (simp; omega))); (try simp only [Act.put, aP, aZ, aS]))
    refine pl_done ?_
    refine hK4.out _ _ ?_
    (try clear hK4 K4)
    refine wp_cond_true rfl ?_
    refine wk_seq (fun K5 hK5 => ?_)
    refine wk_reg ?_
    iterate 2 (refine pl_take (v := ?_) rfl ?_ ?_; rotate_left; (· (go_simp; first | done | with_reducible rfl | rfl | omega | assumption | (simp; omega))); (try simp only [Act.put, aP, aZ, aS]))
    refine pl_done ?_
    refine hK5.out _ _ ?_
    (try clear hK5 K5)
    refine wp_ret ?_
    go_ret2
    exact RetBB.nil 36 (MR.made hys hbs ((by assumption : Sat w0 _ _).pick (by (repeat (first | exact Pick.nil _ | exact Pick.tail _ | exact Out.here _ | apply Out.there | apply Pick.cons | apply Pick.drop)))))
  · by_cases k2 : st + l.length < fr
    · rw [show Mc.read ⟨sp, ap, st, l, ss⟩ fr n = ([], 11) from by unfold Mc.read; rw [if_neg k1, if_pos k2]]
      go_enter Try.func25, Try.ntmps25
      refine wk_seq (fun K0 hK0 => ?_)
      refine wk_reg ?_
      iterate 2 (refine pl_take (v := ?_) rfl ?_ ?_; rotate_left; (· (go_simp; first | done | with_reducible rfl | rfl | omega | assumption | (simp; omega))); (try simp only [Act.put, aP, aZ, aS]))
      refine pl_done ?_
      refine hK0.out _ _ ?_
      (try clear hK0 K0)
      refine wk_seq (fun K1 hK1 => ?_)
      refine wp_block ?_
      refine wk_seq (fun K2 hK2 => ?_)
      refine wk_reg ?_
      refine pl_take (v := ?_) rfl ?_ ?_
      rotate_left
      · (go_simp; first | done | with_reducible rfl | rfl | omega | assumption | (simp; omega))
      (try simp only [Act.put, aP, aZ, aS])
      refine pl_eff rfl (fun Kp hKp => ?_)
      go_simp
      (refine (noneM_spec (b := bm) (by assumption) (by (repeat (first | with_reducible assumption | ((with_reducible apply Cl.own); exact rfl) | ((with_reducible apply Cl.blkL); exact rfl) | with_reducible apply Cl.cons)))).mono ?_; rintro e13 w13 ⟨rfl, hs13⟩)
      (try go_wp2_with fail)
      refine hKp.out _ _ ?_
      clear hKp Kp
      (try simp only [Act.put, aP, aZ, aS])
      refine pl_take (v := .bool false) rfl ?_ ?_
      · (go_simp; first | done | with_reducible rfl | rfl | omega | assumption | (simp; omega))
      (try simp only [Act.put, aP, aZ, aS])
      refine pl_done ?_
      refine hK2.out _ _ ?_
      (try clear hK2 K2)
      refine wp_cond_false rfl ?_
      refine wk_seq (fun K4 hK4 => ?_)
      refine wk_reg ?_
      iterate 5 (refine pl_take (v := ?_) rfl ?_ ?_; rotate_left; (· (first | ((with_reducible apply yl_load); assumption; rfl; (repeat (first | with_reducible assumption | ((with_reducible apply Cl.own); exact rfl) | ((with_reducible apply Cl.blkL); exact rfl) | with_reducible apply Cl.cons)); rfl) | (go_simp; first | done | with_reducible rfl | rfl | omega | assumption | (simp; omega)))); (try simp only [Act.put, aP, aZ, aS]))
      iterate 2 (refine pl_take (v := .bool false) rfl ?_ ?_; (· (go_simp; first | done | with_reducible rfl | rfl | omega | assumption | (simp; omega))); (try simp only [Act.put, aP, aZ, aS]))
      refine pl_done ?_
      refine hK4.out _ _ ?_
      (try clear hK4 K4)
      refine wp_cond_false rfl ?_
      refine wk_seq (fun K6 hK6 => ?_)
      refine wk_reg ?_
      iterate 2 (refine pl_take (v := ?_) rfl ?_ ?_; rotate_left; (· (go_simp; first | done | with_reducible rfl | rfl | omega | assumption | (simp; omega))); (try simp only [Act.put, aP, aZ, aS]))
      refine pl_eff rfl (fun Kp hKp => ?_)
      go_simp
      (refine (hNx _ _ (by assumption) (by (repeat (first | with_reducible assumption | ((with_reducible apply Cl.own); exact rfl) | ((with_reducible apply Cl.blkL); exact rfl) | with_reducible apply Cl.cons))) (by (repeat (first | with_reducible assumption | ((with_reducible apply Cl.own); exact rfl) | ((with_reducible apply Cl.blkL); exact rfl) | with_reducible apply Cl.cons))) (by (repeat (first | with_reducible assumption | ((with_reducible apply Cl.own); exact rfl) | ((with_reducible apply Cl.blkL); exact rfl) | with_reducible apply Cl.cons)))).mono ?_; rintro e24 w24 ⟨rfl, hs24⟩)
      (try go_wp2_with fail)
      refine hKp.out _ _ ?_
      clear hKp Kp
      (try simp only [Act.put, aP, aZ, aS])
      iterate 2 (refine pl_take (v := .bool true) rfl ?_ ?_; (· (go_simp; first | done | with_reducible rfl | rfl | omega | assumption | (simp; omega))); (try simp only [Act.put, aP, aZ, aS]))
      refine pl_done ?_
      refine hK6.out _ _ ?_
      (try clear hK6 K6)
      refine wp_cond_true rfl ?_
      refine wk_seq (fun K7 hK7 => ?_)
      refine wk_reg ?_
      iterate 2 (refine pl_take (v := ?_) rfl ?_ ?_; rotate_left; (· (go_simp; first | done | with_reducible rfl | rfl | omega | assumption | (simp; omega))); (try simp only [Act.put, aP, aZ, aS]))
      refine pl_done ?_
      refine hK7.out _ _ ?_
      (try clear hK7 K7)
      refine wp_ret ?_
      go_ret2
      exact RetBB.nil 11 (MR.made hys hbs ((by assumption : Sat w0 _ _).pick (by (repeat (first | exact Pick.nil _ | exact Pick.tail _ | exact Out.here _ | apply Out.there | apply Pick.cons | apply Pick.drop)))))
    · obtain ⟨k, hk⟩ : ∃ k : Nat, fr - st = k := ⟨(fr - st).toNat, by omega⟩
      have hwk : IntKind.i64.wrap (fr - st) = (k : Int) := by rw [IntWalk.i64_in _ (by omega)]; exact hk
      have hkl : k ≤ l.length := by omega
      have hcapx : l.length ≤ cx := (hs1.pick (T := own 33 1 X cx l.length (recCells ys) :: L) (by (repeat (first | exact Pick.nil _ | exact Pick.tail _ | exact Out.here _ | apply Out.there | apply Pick.cons | apply Pick.drop)))).own_cap
      have hyl : ys.length = l.length := by have := congrArg List.length hys; simpa using this
      obtain ⟨XA, hXA⟩ : ∃ z, (if cx = k then X else X.map (·.add (k * 1))) = z := ⟨_, rfl⟩
      obtain ⟨y2, hy2⟩ : ∃ z, ys.drop k = z := ⟨_, rfl⟩
      have hy2l : y2.length = l.length - k := by rw [← hy2]; simp; omega
      have hwin : ∀ L', Rd w0 L' X l.length 1 (recCells ys) → Rd w0 L' XA y2.length 1 (recCells y2) := fun L' h => by
        have h5 := rd_win (l := k) (h := l.length) (c := cx) hkl (Nat.le_refl _) hcapx h
        rw [hXA] at h5
        rw [hy2l, ← hy2]
        rwa [Nat.mul_one, Nat.mul_one, List.take_of_length_le (by simp [recCells]; omega), show (recCells ys).drop k = recCells (ys.drop k) from by simp [recCells]] at h5
      have hmem : ∀ y ∈ y2, y ∈ ys := fun y hy => by rw [← hy2] at hy; exact List.mem_of_mem_drop hy
      have hrd : Mc.read ⟨sp, ap, st, l, ss⟩ fr n = ((y2.map (·.1)).take n.toNat, 0) := by
        unfold Mc.read
        rw [if_neg k1, if_neg k2, hk, Int.toNat_natCast, ← hy2, List.map_drop, hys]
      rw [hrd]
      have Hy2l := Hid.mk' hy2l
      have HXA := Hid.mk' hXA
      have Hys := Hid.mk' hys
      have hyd : ∀ y ∈ y2, y.1.length ≤ 1048576 := fun y hy => hd _ (by rw [← hys]; exact List.mem_map_of_mem (hmem y hy))
      have hy2b : y2.length ≤ 1099511627776 := by omega
      clear hk hXA hy2 hy2l hrd hys
      go_enter Try.func25, Try.ntmps25
      refine wk_seq (fun K0 hK0 => ?_)
      refine wk_reg ?_
      iterate 2 (refine pl_take (v := ?_) rfl ?_ ?_; rotate_left; (· (go_simp; first | done | with_reducible rfl | rfl | omega | assumption | (simp; omega))); (try simp only [Act.put, aP, aZ, aS]))
      refine pl_done ?_
      refine hK0.out _ _ ?_
      (try clear hK0 K0)
      refine wk_seq (fun K1 hK1 => ?_)
      refine wp_block ?_
      refine wk_seq (fun K2 hK2 => ?_)
      refine wk_reg ?_
      refine pl_take (v := ?_) rfl ?_ ?_
      rotate_left
      · (go_simp; first | done | with_reducible rfl | rfl | omega | assumption | (simp; omega))
      (try simp only [Act.put, aP, aZ, aS])
      refine pl_eff rfl (fun Kp hKp => ?_)
      go_simp
      (refine (noneM_spec (b := bm) (by assumption) (by (repeat (first | with_reducible assumption | ((with_reducible apply Cl.own); exact rfl) | ((with_reducible apply Cl.blkL); exact rfl) | with_reducible apply Cl.cons)))).mono ?_; rintro e13 w13 ⟨rfl, hs13⟩)
      (try go_wp2_with fail)
      refine hKp.out _ _ ?_
      clear hKp Kp
      (try simp only [Act.put, aP, aZ, aS])
      refine pl_take (v := .bool false) rfl ?_ ?_
      · (go_simp; first | done | with_reducible rfl | rfl | omega | assumption | (simp; omega))
      (try simp only [Act.put, aP, aZ, aS])
      refine pl_done ?_
      refine hK2.out _ _ ?_
      (try clear hK2 K2)
      refine wp_cond_false rfl ?_
      refine wk_seq (fun K4 hK4 => ?_)
      refine wk_reg ?_
      iterate 5 (refine pl_take (v := ?_) rfl ?_ ?_; rotate_left; (· (first | ((with_reducible apply yl_load); assumption; rfl; (repeat (first | with_reducible assumption | ((with_reducible apply Cl.own); exact rfl) | ((with_reducible apply Cl.blkL); exact rfl) | with_reducible apply Cl.cons)); rfl) | (go_simp; first | done | with_reducible rfl | rfl | omega | assumption | (simp; omega)))); (try simp only [Act.put, aP, aZ, aS]))
      iterate 2 (refine pl_take (v := .bool false) rfl ?_ ?_; (· (go_simp; first | done | with_reducible rfl | rfl | omega | assumption | (simp; omega))); (try simp only [Act.put, aP, aZ, aS]))
      refine pl_done ?_
      refine hK4.out _ _ ?_
      (try clear hK4 K4)
      refine wp_cond_false rfl ?_
      refine wk_seq (fun K6 hK6 => ?_)
      refine wk_reg ?_
      iterate 2 (refine pl_take (v := ?_) rfl ?_ ?_; rotate_left; (· (go_simp; first | done | with_reducible rfl | rfl | omega | assumption | (simp; omega))); (try simp only [Act.put, aP, aZ, aS]))
      refine pl_eff rfl (fun Kp hKp => ?_)
      go_simp
      (refine (hNx _ _ (by assumption) (by (repeat (first | with_reducible assumption | ((with_reducible apply Cl.own); exact rfl) | ((with_reducible apply Cl.blkL); exact rfl) | with_reducible apply Cl.cons))) (by (repeat (first | with_reducible assumption | ((with_reducible apply Cl.own); exact rfl) | ((with_reducible apply Cl.blkL); exact rfl) | with_reducible apply Cl.cons))) (by (repeat (first | with_reducible assumption | ((with_reducible apply Cl.own); exact rfl) | ((with_reducible apply Cl.blkL); exact rfl) | with_reducible apply Cl.cons)))).mono ?_; rintro e24 w24 ⟨rfl, hs24⟩)
      (try go_wp2_with fail)
      refine hKp.out _ _ ?_
      clear hKp Kp
      (try simp only [Act.put, aP, aZ, aS])
      iterate 2 (refine pl_take (v := .bool false) rfl ?_ ?_; (· (go_simp; first | done | with_reducible rfl | rfl | omega | assumption | (simp; omega))); (try simp only [Act.put, aP, aZ, aS]))
      refine pl_done ?_
      refine hK6.out _ _ ?_
      (try clear hK6 K6)
      refine wp_cond_false rfl ?_
      refine wp_skip ?_
      refine hK1.out _ _ ?_
      (try clear hK1 K1)
      refine wk_seq (fun K8 hK8 => ?_)
      refine wk_reg ?_
      refine pl_take (v := ?_) rfl ?_ ?_
      rotate_left
      · (go_simp; first | done | with_reducible rfl | rfl | omega | assumption | (simp; omega))
      (try simp only [Act.put, aP, aZ, aS])
      refine pl_done ?_
      refine hK8.out _ _ ?_
      (try clear hK8 K8)
      refine wk_seq (fun K9 hK9 => ?_)
      refine wk_seq (fun K10 hK10 => ?_)
      refine rg_start rfl (by assumption) (fun wr8 hsr8 => ?_)
      refine rg_take (i := 0) (v := ?_) rfl (by kernel_rfl) (by kernel_rfl) (by kernel_rfl) (fun _ _ _ h => h) rfl (by assumption) ?_ ?_
      rotate_left
      · intro w hSw; (go_simp; first | done | with_reducible rfl | rfl | omega | assumption | (simp; omega))
      (try simp only [Act.put, aP, aZ, aS])
      refine rg_take (i := 1) (v := ?_) rfl (by kernel_rfl) (by kernel_rfl) (by kernel_rfl) (fun _ _ _ h => h) rfl (by assumption) ?_ ?_
      rotate_left
      · intro w hSw; (go_simp; first | done | with_reducible rfl | rfl | omega | assumption | (simp; omega))
      (try simp only [Act.put, aP, aZ, aS])
      refine rg_take (i := 2) (v := ?_) rfl (by kernel_rfl) (by kernel_rfl) (by kernel_rfl) (fun _ _ _ h => h) rfl (by assumption) ?_ ?_
      rotate_left
      · intro w hSw; (go_simp; first | done | with_reducible rfl | rfl | omega | assumption | (simp; omega))
      (try simp only [Act.put, aP, aZ, aS])
      refine rg_take (i := 3) (v := ?_) rfl (by kernel_rfl) (by kernel_rfl) (by kernel_rfl) (fun _ _ _ h => h) rfl (by assumption) ?_ ?_
      rotate_left
      · intro w hSw; ((with_reducible apply yl_load); assumption; rfl; (repeat (first | with_reducible assumption | ((with_reducible apply Cl.own); exact rfl) | ((with_reducible apply Cl.blkL); exact rfl) | with_reducible apply Cl.cons)); rfl)
      (try simp only [Act.put, aP, aZ, aS])
      refine rg_take (i := 4) (v := ?_) rfl (by kernel_rfl) (by kernel_rfl) (by kernel_rfl) (fun _ _ _ h => h) rfl (by assumption) ?_ ?_
      rotate_left
      · intro w hSw; (go_simp; first | done | with_reducible rfl | rfl | omega | assumption | (simp; omega))
      (try simp only [Act.put, aP, aZ, aS])
      refine rg_take (i := 5) (v := ?_) rfl (by kernel_rfl) (by kernel_rfl) (by kernel_rfl) (fun _ _ _ h => h) rfl (by assumption) ?_ ?_
      rotate_left
      · intro w hSw; (go_simp; first | done | with_reducible rfl | rfl | omega | assumption | (simp; omega))
      (try simp only [Act.put, aP, aZ, aS])
      refine rg_take (i := 6) (v := ?_) rfl (by kernel_rfl) (by kernel_rfl) (by kernel_rfl) (fun _ _ _ h => h) rfl (by assumption) ?_ ?_
      rotate_left
      · intro w hSw; (go_simp; first | done | with_reducible rfl | rfl | omega | assumption | (simp; omega))
      (try simp only [Act.put, aP, aZ, aS])
      refine rg_take (i := 7) (v := ?_) rfl (by kernel_rfl) (by kernel_rfl) (by kernel_rfl) (fun _ _ _ h => h) rfl (by assumption) ?_ ?_
      rotate_left
      · intro w hSw; (go_simp; first | done | with_reducible rfl | rfl | omega | assumption | (simp; omega))
      (try simp only [Act.put, aP, aZ, aS])
      refine rg_take (i := 8) (v := ?_) rfl (by kernel_rfl) (by kernel_rfl) (by kernel_rfl) (fun _ _ _ h => h) rfl (by assumption) ?_ ?_
      rotate_left
      · intro w hSw; ((with_reducible apply yl_load); assumption; rfl; (repeat (first | with_reducible assumption | ((with_reducible apply Cl.own); exact rfl) | ((with_reducible apply Cl.blkL); exact rfl) | with_reducible apply Cl.cons)); rfl)
      (try simp only [Act.put, aP, aZ, aS])
      refine rg_take (i := 9) (v := ?_) rfl (by kernel_rfl) (by kernel_rfl) (by kernel_rfl) (fun _ _ _ h => h) rfl (by assumption) ?_ ?_
      rotate_left
      · intro w hSw; (go_simp; first | done | with_reducible rfl | rfl | omega | assumption | (simp; omega))
      (try simp only [Act.put, aP, aZ, aS])
      refine rg_take (i := 10) (v := (.slice XA y2.length (cx - k))) rfl (by kernel_rfl) (by kernel_rfl) (by kernel_rfl) (fun _ _ _ h => h) rfl (by assumption) ?_ ?_
      · intro w hSw; ((with_reducible apply yl_sliceLo k); rfl; rfl; rfl; omega; rw [HXA.out, Hy2l.out])
      (try simp only [Act.put, aP, aZ, aS])
      refine rg_take (i := 11) (v := ?_) rfl (by kernel_rfl) (by kernel_rfl) (by kernel_rfl) (fun _ _ _ h => h) rfl (by assumption) ?_ ?_
      rotate_left
      · intro w hSw; (go_simp; first | done | with_reducible rfl | rfl | omega | assumption | (simp; omega))
      (try simp only [Act.put, aP, aZ, aS])
      refine rg_take (i := 12) (v := ?_) rfl (by kernel_rfl) (by kernel_rfl) (by kernel_rfl) (fun _ _ _ h => h) rfl (by assumption) ?_ ?_
      rotate_left
      · intro w hSw; (go_simp; first | done | with_reducible rfl | rfl | omega | assumption | (simp; omega))
      (try simp only [Act.put, aP, aZ, aS])
      refine rg_done (by kernel_rfl) ?_
      refine hK10.out _ _ ?_
      (try clear hK10 K10)
      refine wp_block ?_
      -- at a loop
      go_loopg [8, 38] (y2.length) (fun g s8 s38 wr => ∃ (i q cz : Nat) (Z : Option Addr) (zs : List RecRow), s8 = .slice Z q cz ∧ s38 = .int .i64 i ∧ i ≤ y2.length ∧ y2.length - i ≤ g ∧ q = i ∧ Hid (q = zs.length ∧ zs.map (·.1) = (y2.map (·.1)).take i ∧ (i : Int) ≤ max n 0) ∧ Sat w0 wr (own 33 1 Z cz q (recCells zs) :: DV (recData zs) :: mcBlk p ⟨sp, ap, st, l, ss⟩ X cx bm :: own 33 1 X cx l.length (recCells ys) :: DV (recData ys) :: mp (Value.int .i64) In64 bm (seMap bs) :: SatH (seBlks bs) :: L))
      case atStart => exact ⟨0, 0, 0, none, [], rfl, rfl, Nat.zero_le _, by omega, rfl, ⟨rfl, by simp, by omega⟩, (((by assumption : Sat w0 wr8 (mcBlk p _ X cx bm :: _)).dv_nil).own_nil 33 1).pick (by (repeat (first | exact Pick.nil _ | exact Pick.tail _ | exact Out.here _ | apply Out.there | apply Pick.cons | apply Pick.drop)))⟩
      case round =>
        obtain ⟨i, q, cz, Z, zs, rfl, rfl, hi, hg, rfl, Hz, hsC⟩ := hrel
        have hfin : ∀ (w : World), (zs.map (·.1) = (y2.map (·.1)).take n.toNat) → Sat w0 w (own 33 1 Z cz q (recCells zs) :: DV (recData zs) :: mcBlk p ⟨sp, ap, st, l, ss⟩ X cx bm :: own 33 1 X cx l.length (recCells ys) :: DV (recData ys) :: mp (Value.int .i64) In64 bm (seMap bs) :: SatH (seBlks bs) :: L) → RetBB w0 (MR p ⟨sp, ap, st, l, ss⟩ :: L) ((y2.map (·.1)).take n.toNat, 0) (.returned (.tuple #[.slice Z q cz, .int .i64 0])) w := fun w h hs =>
          ⟨Z, cz, q, zs, h, Hz.out.1, rfl, (MR.made (L := own 33 1 Z cz q (recCells zs) :: DV (recData zs) :: L) Hys.out hbs (hs.pick (by (repeat (first | exact Pick.nil _ | exact Pick.tail _ | exact Out.here _ | apply Out.there | apply Pick.cons | apply Pick.drop))))).pick (by (repeat (first | exact Pick.nil _ | exact Pick.tail _ | exact Out.here _ | apply Out.there | apply Pick.cons | apply Pick.drop)))⟩
        by_cases hlt : q < y2.length
        · obtain ⟨⟨d, D, dc⟩, hx⟩ : ∃ x, y2[q]? = some x := ⟨y2[q], List.getElem?_eq_getElem hlt⟩
          have hym := List.mem_of_getElem? hx
          have hdl := hyd _ hym
          simp only at hdl
          obtain ⟨gb, ob, rfl⟩ := (hwin (own 33 1 X cx l.length (recCells ys) :: DV (recData ys) :: mp (Value.int .i64) In64 bm (seMap bs) :: SatH (seBlks bs) :: L) Rd.own).some_of (hsC.pick (by (repeat (first | exact Pick.nil _ | exact Pick.tail _ | exact Out.here _ | apply Out.there | apply Pick.cons | apply Pick.drop)))) (by omega)
          have hcell : Cl w0 (own 33 1 X cx l.length (recCells ys) :: DV (recData ys) :: mp (Value.int .i64) In64 bm (seMap bs) :: SatH (seBlks bs) :: L) ⟨gb, ob + q, none⟩ (.slice D d.length dc) :=
            (hwin _ Rd.own).elt (by unfold recCells; rw [List.getElem?_map, hx]; rfl)
          have hdv : Rd w0 (DV (recData ys) :: mp (Value.int .i64) In64 bm (seMap bs) :: SatH (seBlks bs) :: L) D d.length 1 (B8 d) := DV.rd (List.mem_map.2 ⟨(d, D, dc), hmem _ hym, rfl⟩)
          have i0 : (0 : Int) ≤ (q : Int) := by omega
          have i1 : (q : Int) < (y2.length : Int) := by omega
          have hwq : IntKind.i64.wrap ((q : Int) + 1) = (q : Int) + 1 := IntWalk.i64_in _ (by omega)
          have Hx := Hid.mk' hx
          clear hx hym hwin
          by_cases hkn : n ≤ (q : Int)
          · have heq : zs.map (·.1) = (y2.map (·.1)).take n.toNat := by rw [Hz.out.2.1]; congr 1; have := Hz.out.2.2; omega
            have Heq := Hid.mk' heq
            clear heq
            refine wk_seq (fun K11 hK11 => ?_)
            refine wk_reg ?_
            refine pl_take (v := .bool true) rfl ?_ ?_
            · (go_simp; first | done | with_reducible rfl | rfl | omega | assumption | (simp; omega))
            (try simp only [Act.put, aP, aZ, aS])
            refine pl_done ?_
            refine hK11.out _ _ ?_
            (try clear hK11 K11)
            refine wk_seq (fun K12 hK12 => ?_)
            refine wp_cond_true rfl ?_
            refine wp_skip ?_
            refine hK12.out _ _ ?_
            (try clear hK12 K12)
            refine wk_seq (fun K13 hK13 => ?_)
            refine wp_block ?_
            refine wk_seq (fun K14 hK14 => ?_)
            refine wk_reg ?_
            iterate 3 (refine pl_take (v := ?_) rfl ?_ ?_; rotate_left; (· (first | ((with_reducible apply yl_load); assumption; rfl; (repeat (first | with_reducible assumption | ((with_reducible apply Cl.own); exact rfl) | ((with_reducible apply Cl.blkL); exact rfl) | with_reducible apply Cl.cons)); rfl) | (go_simp; first | done | with_reducible rfl | rfl | omega | assumption | (simp; omega)))); (try simp only [Act.put, aP, aZ, aS]))
            refine pl_done ?_
            refine hK14.out _ _ ?_
            (try clear hK14 K14)
            refine wk_seq (fun K15 hK15 => ?_)
            refine wk_seq (fun K16 hK16 => ?_)
            refine wk_reg ?_
            iterate 3 (refine pl_take (v := ?_) rfl ?_ ?_; rotate_left; (· (go_simp; first | done | with_reducible rfl | rfl | omega | assumption | (simp; omega))); (try simp only [Act.put, aP, aZ, aS]))
            refine pl_take (v := .bool true) rfl ?_ ?_
            · (go_simp; first | done | with_reducible rfl | rfl | omega | assumption | (simp; omega))
            (try simp only [Act.put, aP, aZ, aS])
            refine pl_done ?_
            refine hK16.out _ _ ?_
            (try clear hK16 K16)
            refine wp_cond_true rfl ?_
            refine wp_exit ?_
            refine hK9.out _ _ ?_
            (try clear hK9 K9)
            refine wk_seq (fun K17 hK17 => ?_)
            refine wk_reg ?_
            iterate 3 (refine pl_take (v := ?_) rfl ?_ ?_; rotate_left; (· (go_simp; first | done | with_reducible rfl | rfl | omega | assumption | (simp; omega))); (try simp only [Act.put, aP, aZ, aS]))
            refine pl_done ?_
            refine hK17.out _ _ ?_
            (try clear hK17 K17)
            refine wp_ret ?_
            go_ret2
            exact hfin _ Heq.out ((by assumption : Sat w0 _ _).pick (by (repeat (first | exact Pick.nil _ | exact Pick.tail _ | exact Out.here _ | apply Out.there | apply Pick.cons | apply Pick.drop))))
          · have Hz2 : Hid (q + 1 = (zs ++ [(d, D, dc)]).length ∧ ∀ (B : Option Addr) (c : Nat), (zs ++ [(d, B, c)]).map (·.1) = (y2.map (·.1)).take (q + 1)) := by
              refine ⟨by have := Hz.out.1; simp; omega, fun B c => ?_⟩
              rw [take_snocM (x := d) (by rw [List.getElem?_map, Hx.out]; rfl), List.map_append, Hz.out.2.1]; rfl
            have hzn : (q + 1 : Int) ≤ max n 0 := by omega
            clear hfin
            refine wk_seq (fun K11 hK11 => ?_)
            refine wk_reg ?_
            refine pl_take (v := .bool true) rfl ?_ ?_
            · (go_simp; first | done | with_reducible rfl | rfl | omega | assumption | (simp; omega))
            (try simp only [Act.put, aP, aZ, aS])
            refine pl_done ?_
            refine hK11.out _ _ ?_
            (try clear hK11 K11)
            refine wk_seq (fun K12 hK12 => ?_)
            refine wp_cond_true rfl ?_
            refine wp_skip ?_
            refine hK12.out _ _ ?_
            (try clear hK12 K12)
            refine wk_seq (fun K13 hK13 => ?_)
            refine wp_block ?_
            refine wk_seq (fun K14 hK14 => ?_)
            refine wk_reg ?_
            iterate 3 (refine pl_take (v := ?_) rfl ?_ ?_; rotate_left; (· (first | ((with_reducible apply yl_load); assumption; rfl; (repeat (first | with_reducible assumption | ((with_reducible apply Cl.own); exact rfl) | ((with_reducible apply Cl.blkL); exact rfl) | with_reducible apply Cl.cons)); rfl) | (go_simp; first | done | with_reducible rfl | rfl | omega | assumption | (simp; omega)))); (try simp only [Act.put, aP, aZ, aS]))
            refine pl_done ?_
            refine hK14.out _ _ ?_
            (try clear hK14 K14)
            refine wk_seq (fun K15 hK15 => ?_)
            refine wk_seq (fun K16 hK16 => ?_)
            refine wk_reg ?_
            iterate 3 (refine pl_take (v := ?_) rfl ?_ ?_; rotate_left; (· (go_simp; first | done | with_reducible rfl | rfl | omega | assumption | (simp; omega))); (try simp only [Act.put, aP, aZ, aS]))
            refine pl_take (v := .bool false) rfl ?_ ?_
            · (go_simp; first | done | with_reducible rfl | rfl | omega | assumption | (simp; omega))
            (try simp only [Act.put, aP, aZ, aS])
            refine pl_done ?_
            refine hK16.out _ _ ?_
            (try clear hK16 K16)
            refine wp_cond_false rfl ?_
            refine wp_skip ?_
            refine hK15.out _ _ ?_
            (try clear hK15 K15)
            refine wk_reg ?_
            iterate 2 (refine pl_take (v := ?_) rfl ?_ ?_; rotate_left; (· (go_simp; first | done | with_reducible rfl | rfl | omega | assumption | (simp; omega))); (try simp only [Act.put, aP, aZ, aS]))
            refine pl_eff rfl (fun Kp hKp => ?_)
            go_simp
            (refine (clone_spec d (by omega) (by assumption) (by (repeat (first | with_reducible assumption | with_reducible exact Rd.own | with_reducible exact Rd.nil | with_reducible apply Rd.cons)))).mono ?_; rintro e48 w48 ⟨B48, c48, rfl, hs48⟩)
            (try go_wp2_with fail)
            refine hKp.out _ _ ?_
            clear hKp Kp
            (try simp only [Act.put, aP, aZ, aS])
            refine pl_eff rfl (fun Kp hKp => ?_)
            ((with_reducible apply st_buildSlice); assumption; rfl; (go_simp; rfl); (simp [Value.cells]); omega; intro b49 w49 hs49)
            refine hKp.out _ _ ?_
            clear hKp Kp
            (try simp only [Act.put, aP, aZ, aS])
            refine pl_eff rfl (fun Kp hKp => ?_)
            ((with_reducible apply st_append); go_must (assumption; rfl; rfl; (repeat (first | with_reducible exact Out.here _ | apply Out.there)); (repeat (first | with_reducible assumption | with_reducible exact Rd.own | with_reducible exact Rd.nil | with_reducible apply Rd.cons)); (first | exact B8_one _ | exact I8_one _ | (simp [Value.oneCell'])); (first | omega | (simp only [maxLen]; omega)); omega; intro A50 c50 w50 hs50 hc50; (try ((refine hs50.own_elim ?_ ?_); omega; rintro g50 rfl)); try simp only [Nat.zero_add, List.nil_append] at hs50 hc50))
            refine hKp.out _ _ ?_
            clear hKp Kp
            (try simp only [Act.put, aP, aZ, aS])
            refine pl_take (v := ?_) rfl ?_ ?_
            rotate_left
            · (go_simp; first | done | with_reducible rfl | rfl | omega | assumption | (simp; omega))
            (try simp only [Act.put, aP, aZ, aS])
            refine pl_done ?_
            refine hK13.out _ _ ?_
            (try clear hK13 K13)
            refine wk_reg ?_
            iterate 2 (refine pl_take (v := ?_) rfl ?_ ?_; rotate_left; (· (go_simp; first | done | with_reducible rfl | rfl | omega | assumption | (simp; omega))); (try simp only [Act.put, aP, aZ, aS]))
            refine pl_done ?_
            (try dsimp only [Exit.inBlock, Exit.then])
            refine (by assumption : ∀ a' w', Handed _ _ a' w' → _) _ _ ?_
            go_roundg (gk - 1)
            case measure => omega
            case rel => (refine ⟨q + 1, q + 1, c50, some ⟨g50, 0, none⟩, zs ++ [(d, B48, c48)], by go_num, by go_num, by omega, by omega, rfl, ⟨by simpa using Hz2.out.1, Hz2.out.2 _ _, by omega⟩, ?_⟩; rw [recCells_snoc, recData_snoc]; refine Sat.pick (L := DV (recData zs ++ [(B48, d)]) :: own 33 1 (some ⟨g50, 0, none⟩) c50 (q + 1) (recCells zs ++ [.slice B48 d.length c48]) :: mcBlk p ⟨sp, ap, st, l, ss⟩ X cx bm :: own 33 1 X cx l.length (recCells ys) :: DV (recData ys) :: mp (Value.int .i64) In64 bm (seMap bs) :: SatH (seBlks bs) :: L) ?_ (by (repeat (first | exact Pick.nil _ | exact Pick.tail _ | exact Out.here _ | apply Out.there | apply Pick.cons | apply Pick.drop))); refine Sat.dv_snoc (E := 5) (c := c48) ?_; exact (by assumption : Sat w0 _ _).pick (by (repeat (first | exact Pick.nil _ | exact Pick.tail _ | exact Out.here _ | apply Out.there | apply Pick.cons | apply Pick.drop))))
        · obtain rfl : q = y2.length := by omega
          have heq : zs.map (·.1) = (y2.map (·.1)).take n.toNat := by
            rw [Hz.out.2.1, List.take_of_length_le (by simp), List.take_of_length_le]
            have := Hz.out.2.2
            simp; omega
          have Heq := Hid.mk' heq
          clear heq hwin
          refine wk_seq (fun K11 hK11 => ?_)
          refine wk_reg ?_
          refine pl_take (v := .bool false) rfl ?_ ?_
          · (go_simp; first | done | with_reducible rfl | rfl | omega | assumption | (simp; omega))
          (try simp only [Act.put, aP, aZ, aS])
          refine pl_done ?_
          refine hK11.out _ _ ?_
          (try clear hK11 K11)
          refine wk_seq (fun K12 hK12 => ?_)
          refine wp_cond_false rfl ?_
          refine wp_exit ?_
          refine hK9.out _ _ ?_
          (try clear hK9 K9)
          refine wk_seq (fun K17 hK17 => ?_)
          refine wk_reg ?_
          iterate 3 (refine pl_take (v := ?_) rfl ?_ ?_; rotate_left; (· (go_simp; first | done | with_reducible rfl | rfl | omega | assumption | (simp; omega))); (try simp only [Act.put, aP, aZ, aS]))
          refine pl_done ?_
          refine hK17.out _ _ ?_
          (try clear hK17 K17)
          refine wp_ret ?_
          go_ret2
          exact hfin _ Heq.out ((by assumption : Sat w0 _ _).pick (by (repeat (first | exact Pick.nil _ | exact Pick.tail _ | exact Out.here _ | apply Out.there | apply Pick.cons | apply Pick.drop))))
end Go.Proofs.Ytdlimjcidblneaa
