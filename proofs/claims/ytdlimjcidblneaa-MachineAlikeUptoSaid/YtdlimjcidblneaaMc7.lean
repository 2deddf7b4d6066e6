/-
  The machine: a command at an index.
-/
import Derived.Test.YtdlimjcidblneaaMc6
namespace Go.Proofs.Ytdlimjcidblneaa
open Go Go.RowKit Sl Go.Shelf
set_option maxHeartbeats 20000000
set_option maxRecDepth 8000

abbrev resBlk (b : Nat) : HP := blk b (.cells #[.int .i64 0, .int .i64 0, .int .i64 0] 30 (0, 0))

theorem cmd_in (b : List UInt8) : 0 ≤ (cmd b).x ∧ (cmd b).x < 281474976710656 := by
  unfold cmd
  dsimp only
  split
  · exact ⟨(rdNumber_ok (l := (rdNumber 0 b).2.2) (e := (rdNumber 0 b).2.1) rfl).1, (rdNumber_ok (l := (rdNumber 0 b).2.2) (e := (rdNumber 0 b).2.1) rfl).2.2.2⟩
  · split
    · exact ⟨(rdNumber_ok (l := (rdNumber 0 b).2.2) (e := (rdNumber 0 b).2.1) rfl).1, (rdNumber_ok (l := (rdNumber 0 b).2.2) (e := (rdNumber 0 b).2.1) rfl).2.2.2⟩
    · simp

theorem Sat.dv_sub {w0 w : World} {L : List HP} {l l' : List (Option Addr × List UInt8)} (h : ∀ y ∈ l', y ∈ l) (hs : Sat w0 w (DV l :: L)) : Sat w0 w (DV l' :: L) := hs.to_head fun _ H y hy => H y (h y hy)


/-- It has told T, and the machine at p is M. -/
def RetTold (w0 : World) (L : List HP) (p : Nat) (z : Told × Mc) (e : Ending) (w' : World) : Prop := e = .returned (.tuple #[.agg #[.int .i64 z.1.e, .int .i64 z.1.s, .int .i64 z.1.n], .int .i64 z.1.err]) ∧ Sat w0 w' (MR p z.2 :: L)

theorem apply_spec {w0 w : World} {L : List HP} {p : Nat} {M : Mc} {A : Option Addr} {c : Nat} (ix : Int) (b : List UInt8) (hok : M.Ok) (hll : M.l.length ≤ 1099511627776) (hb : b.length ≤ 4294967296) (hs : Sat w0 w (MR p M :: L)) (hR : Rd w0 L A b.length 1 (B8 b)) :
    Calls Try.prog 14 #[.pointer (some ⟨p, 0, none⟩), .int .i64 ix, .slice A b.length c] w (RetTold w0 L p (M.apply ix b)) := by
  obtain ⟨X, cx, bm, ys, bs, hys, hbs, hs1⟩ := MR.opened hs
  obtain ⟨hnd, hin⟩ := mp_keys (hs1.pick (T := mp (Value.int .i64) In64 bm (seMap bs) :: L) (by (repeat (first | exact Pick.nil _ | exact Pick.tail _ | exact Out.here _ | apply Out.there | apply Pick.cons | apply Pick.drop))))
  rw [seMap_keys] at hnd
  clear hs
  obtain ⟨sp, ap, st, l, ss⟩ := M
  obtain ⟨⟨hsp1, hsp2⟩, ⟨hap1, hap2⟩, hst, hlen, hids⟩ := hok
  simp only at hsp1 hsp2 hap1 hap2 hst hlen hids hll hys hbs hs1
  by_cases h1 : ix ≤ ap
  · rw [show Mc.apply ⟨sp, ap, st, l, ss⟩ ix b = (⟨0, 0, 0, 35⟩, ⟨sp, ap, st, l, ss⟩) from by unfold Mc.apply; rw [if_pos h1]]
    go_enter Try.func14, Try.ntmps14
    refine wk_seq (fun K0 hK0 => ?_)
    refine wk_reg ?_
    refine pl_eff rfl (fun Kp hKp => ?_)
    ((with_reducible apply st_alloc); assumption; intro b6 w6 hs6; simp only [Value.cells] at hs6)
    refine hKp.out _ _ ?_
    clear hKp Kp
    (try simp only [Act.put, aP, aZ, aS])
    refine pl_take (v := ?_) rfl ?_ ?_
    rotate_left
    · (go_simp; first | done | with_reducible rfl | rfl | omega | assumption | (simp; omega))
    (try simp only [Act.put, aP, aZ, aS])
    refine pl_done ?_
    refine hK0.out _ _ ?_
    (try clear hK0 K0)
    refine wk_seq (fun K1 hK1 => ?_)
    refine wp_block ?_
    refine wk_seq (fun K2 hK2 => ?_)
    refine wk_reg ?_
    refine pl_take (v := ?_) rfl ?_ ?_
    rotate_left
    · (go_simp; first | done | with_reducible rfl | rfl | omega | assumption | (simp; omega))
    (try simp only [Act.put, aP, aZ, aS])
    refine pl_eff rfl (fun Kp hKp => ?_)
    go_simp
    (refine (noneM_spec (b := bm) (by assumption) (by (repeat (first | with_reducible assumption | ((with_reducible apply Cl.own); exact rfl) | ((with_reducible apply Cl.blkL); exact rfl) | with_reducible apply Cl.cons)))).mono ?_; rintro e17 w17 ⟨rfl, hs17⟩)
    (try go_wp2_with fail)
    refine hKp.out _ _ ?_
    clear hKp Kp
    (try simp only [Act.put, aP, aZ, aS])
    refine pl_take (v := .bool false) rfl ?_ ?_
    · (go_simp; first | done | with_reducible rfl | rfl | omega | assumption | (simp; omega))
    (try simp only [Act.put, aP, aZ, aS])
    refine pl_done ?_
    refine hK2.out _ _ ?_
    (try clear hK2 K2)
    refine wp_cond_false rfl ?_
    refine wk_seq (fun K4 hK4 => ?_)
    refine wk_reg ?_
    iterate 5 (refine pl_take (v := ?_) rfl ?_ ?_; rotate_left; (· (first | ((with_reducible apply yl_load); assumption; rfl; (repeat (first | with_reducible assumption | ((with_reducible apply Cl.own); exact rfl) | ((with_reducible apply Cl.blkL); exact rfl) | with_reducible apply Cl.cons)); rfl) | (go_simp; first | done | with_reducible rfl | rfl | omega | assumption | (simp; omega)))); (try simp only [Act.put, aP, aZ, aS]))
    iterate 2 (refine pl_take (v := .bool true) rfl ?_ ?_; (· (go_simp; first | done | with_reducible rfl | rfl | omega | assumption | (simp; omega))); (try simp only [Act.put, aP, aZ, aS]))
    refine pl_done ?_
    refine hK4.out _ _ ?_
    (try clear hK4 K4)
    refine wp_cond_true rfl ?_
    refine wk_seq (fun K5 hK5 => ?_)
    refine wk_reg ?_
    refine pl_take (v := ?_) rfl ?_ ?_
    rotate_left
    · (go_simp; first | done | with_reducible rfl | rfl | omega | assumption | (simp; omega))
    (try simp only [Act.put, aP, aZ, aS])
    refine pl_eff rfl (fun Kp hKp => ?_)
    (first | ((with_reducible apply st_storeAll); assumption; rfl; (go_simp; rfl); (repeat (first | with_reducible exact Out.here _ | apply Out.there)); rfl; (focus (first | (simp [Value.oneCell']; done) | (simp [Value.cells, Value.oneCell']; done))); rfl; intro wr4_1 hsr4_1; simp only [Value.cells] at hsr4_1) | ((with_reducible apply st_store); assumption; rfl; (go_simp; rfl); (repeat (first | with_reducible exact Out.here _ | apply Out.there)); rfl; (first | (focus (simp [Value.oneCell']; done)) | (simp [Value.cells, Value.oneCell'])); (first | (focus (simp; done)) | (simp [Value.cells])); intro wr4_1 hsr4_1; simp only [upd, Value.cells] at hsr4_1))
    refine hKp.out _ _ ?_
    clear hKp Kp
    (try dsimp only [Act.put])
    refine pl_take (v := ?_) rfl ?_ ?_
    rotate_left
    · (go_simp; first | done | with_reducible rfl | rfl | omega | assumption | (simp; omega))
    (try simp only [Act.put, aP, aZ, aS])
    refine pl_done ?_
    refine hK5.out _ _ ?_
    (try clear hK5 K5)
    refine wp_ret ?_
    ((try simp only [Exit.inBlock, Exit.then]); refine retC1T rfl rfl (by assumption) (by (repeat (first | exact Out.here _ | apply Out.there))) (by simp) rfl rfl ?_)
    exact ⟨rfl, MR.made hys hbs ((by assumption : Sat w0 _ _).pick (by (repeat (first | exact Pick.nil _ | exact Pick.tail _ | exact Out.here _ | apply Out.there | apply Pick.cons | apply Pick.drop))))⟩
  · by_cases h2 : 1099511627776 ≤ ix
    · rw [show Mc.apply ⟨sp, ap, st, l, ss⟩ ix b = (⟨0, 0, 0, 11⟩, ⟨sp, ap, st, l, ss⟩) from by unfold Mc.apply; rw [if_neg h1, if_pos h2]]
      go_enter Try.func14, Try.ntmps14
      refine wk_seq (fun K0 hK0 => ?_)
      refine wk_reg ?_
      refine pl_eff rfl (fun Kp hKp => ?_)
      ((with_reducible apply st_alloc); assumption; intro b6 w6 hs6; simp only [Value.cells] at hs6)
      refine hKp.out _ _ ?_
      clear hKp Kp
      (try simp only [Act.put, aP, aZ, aS])
      refine pl_take (v := ?_) rfl ?_ ?_
      rotate_left
      · (go_simp; first | done | with_reducible rfl | rfl | omega | assumption | (simp; omega))
      (try simp only [Act.put, aP, aZ, aS])
      refine pl_done ?_
      refine hK0.out _ _ ?_
      (try clear hK0 K0)
      refine wk_seq (fun K1 hK1 => ?_)
      refine wp_block ?_
      refine wk_seq (fun K2 hK2 => ?_)
      refine wk_reg ?_
      refine pl_take (v := ?_) rfl ?_ ?_
      rotate_left
      · (go_simp; first | done | with_reducible rfl | rfl | omega | assumption | (simp; omega))
      (try simp only [Act.put, aP, aZ, aS])
      refine pl_eff rfl (fun Kp hKp => ?_)
      go_simp
      (refine (noneM_spec (b := bm) (by assumption) (by (repeat (first | with_reducible assumption | ((with_reducible apply Cl.own); exact rfl) | ((with_reducible apply Cl.blkL); exact rfl) | with_reducible apply Cl.cons)))).mono ?_; rintro e17 w17 ⟨rfl, hs17⟩)
      (try go_wp2_with fail)
      refine hKp.out _ _ ?_
      clear hKp Kp
      (try simp only [Act.put, aP, aZ, aS])
      refine pl_take (v := .bool false) rfl ?_ ?_
      · (go_simp; first | done | with_reducible rfl | rfl | omega | assumption | (simp; omega))
      (try simp only [Act.put, aP, aZ, aS])
      refine pl_done ?_
      refine hK2.out _ _ ?_
      (try clear hK2 K2)
      refine wp_cond_false rfl ?_
      refine wk_seq (fun K4 hK4 => ?_)
      refine wk_reg ?_
      iterate 5 (refine pl_take (v := ?_) rfl ?_ ?_; rotate_left; (· (first | ((with_reducible apply yl_load); assumption; rfl; (repeat (first | with_reducible assumption | ((with_reducible apply Cl.own); exact rfl) | ((with_reducible apply Cl.blkL); exact rfl) | with_reducible apply Cl.cons)); rfl) | (go_simp; first | done | with_reducible rfl | rfl | omega | assumption | (simp; omega)))); (try simp only [Act.put, aP, aZ, aS]))
      iterate 2 (refine pl_take (v := .bool false) rfl ?_ ?_; (· (go_simp; first | done | with_reducible rfl | rfl | omega | assumption | (simp; omega))); (try simp only [Act.put, aP, aZ, aS]))
      refine pl_done ?_
      refine hK4.out _ _ ?_
      (try clear hK4 K4)
      refine wp_cond_false rfl ?_
      refine wk_seq (fun K6 hK6 => ?_)
      refine wk_reg ?_
      refine pl_take (v := ?_) rfl ?_ ?_
      rotate_left
      · (go_simp; first | done | with_reducible rfl | rfl | omega | assumption | (simp; omega))
      (try simp only [Act.put, aP, aZ, aS])
      iterate 2 (refine pl_take (v := .bool true) rfl ?_ ?_; (· (go_simp; first | done | with_reducible rfl | rfl | omega | assumption | (simp; omega))); (try simp only [Act.put, aP, aZ, aS]))
      refine pl_done ?_
      refine hK6.out _ _ ?_
      (try clear hK6 K6)
      refine wp_cond_true rfl ?_
      refine wk_seq (fun K7 hK7 => ?_)
      refine wk_reg ?_
      refine pl_take (v := ?_) rfl ?_ ?_
      rotate_left
      · (go_simp; first | done | with_reducible rfl | rfl | omega | assumption | (simp; omega))
      (try simp only [Act.put, aP, aZ, aS])
      refine pl_eff rfl (fun Kp hKp => ?_)
      (first | ((with_reducible apply st_storeAll); assumption; rfl; (go_simp; rfl); (repeat (first | with_reducible exact Out.here _ | apply Out.there)); rfl; (focus (first | (simp [Value.oneCell']; done) | (simp [Value.cells, Value.oneCell']; done))); rfl; intro wr6_1 hsr6_1; simp only [Value.cells] at hsr6_1) | ((with_reducible apply st_store); assumption; rfl; (go_simp; rfl); (repeat (first | with_reducible exact Out.here _ | apply Out.there)); rfl; (first | (focus (simp [Value.oneCell']; done)) | (simp [Value.cells, Value.oneCell'])); (first | (focus (simp; done)) | (simp [Value.cells])); intro wr6_1 hsr6_1; simp only [upd, Value.cells] at hsr6_1))
      refine hKp.out _ _ ?_
      clear hKp Kp
      (try dsimp only [Act.put])
      refine pl_take (v := ?_) rfl ?_ ?_
      rotate_left
      · (go_simp; first | done | with_reducible rfl | rfl | omega | assumption | (simp; omega))
      (try simp only [Act.put, aP, aZ, aS])
      refine pl_done ?_
      refine hK7.out _ _ ?_
      (try clear hK7 K7)
      refine wp_ret ?_
      ((try simp only [Exit.inBlock, Exit.then]); refine retC1T rfl rfl (by assumption) (by (repeat (first | exact Out.here _ | apply Out.there))) (by simp) rfl rfl ?_)
      exact ⟨rfl, MR.made hys hbs ((by assumption : Sat w0 _ _).pick (by (repeat (first | exact Pick.nil _ | exact Pick.tail _ | exact Out.here _ | apply Out.there | apply Pick.cons | apply Pick.drop))))⟩
    · rw [show Mc.apply ⟨sp, ap, st, l, ss⟩ ix b = (Mc.expire ⟨sp, ap, st, l, ss⟩ ix).does ix (cmd b) from by unfold Mc.apply; rw [if_neg h1, if_neg h2]]
      have hstrip := strip_keep bs ⟨sp, ap, st, l, ss⟩ ix hbs
      unfold Mc.expire at hstrip ⊢
      simp only at hstrip ⊢
      obtain ⟨ss1, hss1⟩ : ∃ s, ss.filter (fun x => decide (ix - sp < x.2.t)) = s := ⟨_, rfl⟩
      have hids1 : ∀ x ∈ ss1, 0 < x.1 ∧ x.1 < ix := fun x hx => by
        rw [← hss1] at hx
        have := hids x (List.mem_filter.1 hx).1
        omega
      rw [hss1] at hstrip ⊢
      obtain ⟨lim, hlim⟩ : ∃ lim, ix - sp = lim := ⟨_, rfl⟩
      rw [hlim] at hstrip
      have hwl : IntKind.i64.wrap (ix - sp) = lim := by rw [IntWalk.i64_in _ (by omega)]; exact hlim
      obtain ⟨⟨ck, cx', cy, cd⟩, hc⟩ : ∃ c, cmd b = c := ⟨_, rfl⟩
      have hcx := cmd_in b
      have hCm := fun (w : World) (L' : List HP) (hs : Sat w0 w L') (h : Rd w0 L' A b.length 1 (B8 b)) => command_spec (c := c) b hb hs h
      rw [hc] at hcx hCm ⊢
      simp only at hcx
      obtain ⟨Z, hZ⟩ : ∃ Z, Mc.does ⟨sp, ix, st, l, ss1⟩ ix ⟨ck, cx', cy, cd⟩ = Z := ⟨_, rfl⟩
      rw [hZ]
      have HZ := Hid.mk' hZ
      clear hZ
      have hx64 : In64 ix := by unfold In64; omega
      have Hk := Hid.mk' hnd
      have Hys := Hid.mk' hys
      have Hst := Hid.mk' hstrip
      have Hid1 := Hid.mk' hids1
      clear hss1 hlim hc hbs hids hnd hys hstrip hids1
      go_enter Try.func14, Try.ntmps14
      refine wk_seq (fun K0 hK0 => ?_)
      refine wk_reg ?_
      refine pl_eff rfl (fun Kp hKp => ?_)
      ((with_reducible apply st_alloc); assumption; intro b6 w6 hs6; simp only [Value.cells] at hs6)
      refine hKp.out _ _ ?_
      clear hKp Kp
      (try simp only [Act.put, aP, aZ, aS])
      refine pl_take (v := ?_) rfl ?_ ?_
      rotate_left
      · (go_simp; first | done | with_reducible rfl | rfl | omega | assumption | (simp; omega))
      (try simp only [Act.put, aP, aZ, aS])
      refine pl_done ?_
      refine hK0.out _ _ ?_
      (try clear hK0 K0)
      refine wk_seq (fun K1 hK1 => ?_)
      refine wp_block ?_
      refine wk_seq (fun K2 hK2 => ?_)
      refine wk_reg ?_
      refine pl_take (v := ?_) rfl ?_ ?_
      rotate_left
      · (go_simp; first | done | with_reducible rfl | rfl | omega | assumption | (simp; omega))
      (try simp only [Act.put, aP, aZ, aS])
      refine pl_eff rfl (fun Kp hKp => ?_)
      go_simp
      (refine (noneM_spec (b := bm) (by assumption) (by (repeat (first | with_reducible assumption | ((with_reducible apply Cl.own); exact rfl) | ((with_reducible apply Cl.blkL); exact rfl) | with_reducible apply Cl.cons)))).mono ?_; rintro e17 w17 ⟨rfl, hs17⟩)
      (try go_wp2_with fail)
      refine hKp.out _ _ ?_
      clear hKp Kp
      (try simp only [Act.put, aP, aZ, aS])
      refine pl_take (v := .bool false) rfl ?_ ?_
      · (go_simp; first | done | with_reducible rfl | rfl | omega | assumption | (simp; omega))
      (try simp only [Act.put, aP, aZ, aS])
      refine pl_done ?_
      refine hK2.out _ _ ?_
      (try clear hK2 K2)
      refine wp_cond_false rfl ?_
      refine wk_seq (fun K4 hK4 => ?_)
      refine wk_reg ?_
      iterate 5 (refine pl_take (v := ?_) rfl ?_ ?_; rotate_left; (· (first | ((with_reducible apply yl_load); assumption; rfl; (repeat (first | with_reducible assumption | ((with_reducible apply Cl.own); exact rfl) | ((with_reducible apply Cl.blkL); exact rfl) | with_reducible apply Cl.cons)); rfl) | (go_simp; first | done | with_reducible rfl | rfl | omega | assumption | (simp; omega)))); (try simp only [Act.put, aP, aZ, aS]))
      iterate 2 (refine pl_take (v := .bool false) rfl ?_ ?_; (· (go_simp; first | done | with_reducible rfl | rfl | omega | assumption | (simp; omega))); (try simp only [Act.put, aP, aZ, aS]))
      refine pl_done ?_
      refine hK4.out _ _ ?_
      (try clear hK4 K4)
      refine wp_cond_false rfl ?_
      refine wk_seq (fun K6 hK6 => ?_)
      refine wk_reg ?_
      refine pl_take (v := ?_) rfl ?_ ?_
      rotate_left
      · (go_simp; first | done | with_reducible rfl | rfl | omega | assumption | (simp; omega))
      (try simp only [Act.put, aP, aZ, aS])
      iterate 2 (refine pl_take (v := .bool false) rfl ?_ ?_; (· (go_simp; first | done | with_reducible rfl | rfl | omega | assumption | (simp; omega))); (try simp only [Act.put, aP, aZ, aS]))
      refine pl_done ?_
      refine hK6.out _ _ ?_
      (try clear hK6 K6)
      refine wp_cond_false rfl ?_
      refine wp_skip ?_
      refine hK1.out _ _ ?_
      (try clear hK1 K1)
      refine wk_seq (fun K8 hK8 => ?_)
      refine wk_reg ?_
      iterate 4 (refine pl_take (v := ?_) rfl ?_ ?_; rotate_left; (· (go_simp; first | done | with_reducible rfl | rfl | omega | assumption | (simp; omega))); (try simp only [Act.put, aP, aZ, aS]))
      refine pl_eff rfl (fun Kp hKp => ?_)
      (first | ((with_reducible apply st_store1); assumption; rfl; (go_simp; rfl); (repeat (first | with_reducible exact Out.here _ | apply Out.there)); rfl; rfl; simp; intro wr7_4 hsr7_4; (try simp only [aP] at hsr7_4); (try simp only [aS] at hsr7_4); (try simp only [aZ] at hsr7_4)) | ((with_reducible apply st_store_own); assumption; rfl; (go_simp; rfl); (repeat (first | with_reducible exact Out.here _ | apply Out.there)); rfl; rfl; omega; intro wr7_4 hsr7_4))
      refine hKp.out _ _ ?_
      clear hKp Kp
      (try dsimp only [Act.put])
      refine pl_done ?_
      refine hK8.out _ _ ?_
      (try clear hK8 K8)
      refine wk_seq (fun K9 hK9 => ?_)
      refine wk_seq (fun K10 hK10 => ?_)
      refine wk_reg ?_
      iterate 4 (refine pl_take (v := ?_) rfl ?_ ?_; rotate_left; (· (first | ((with_reducible apply yl_load); assumption; rfl; (repeat (first | with_reducible assumption | ((with_reducible apply Cl.own); exact rfl) | ((with_reducible apply Cl.blkL); exact rfl) | with_reducible apply Cl.cons)); rfl) | (go_simp; first | done | with_reducible rfl | rfl | omega | assumption | (simp; omega)))); (try simp only [Act.put, aP, aZ, aS]))
      refine pl_eff rfl (fun Kp hKp => ?_)
      ((with_reducible apply st_range); assumption; rfl; (repeat (first | with_reducible exact Out.here _ | apply Out.there)); intro b39 w39 hs39)
      refine hKp.out _ _ ?_
      clear hKp Kp
      (try simp only [Act.put, aP, aZ, aS])
      refine pl_done ?_
      refine hK10.out _ _ ?_
      (try clear hK10 K10)
      refine wp_block ?_
      -- at a loop
      go_loopg [] (bs.length) (fun g wr => ∃ (left : List SesRow) (cur : Option (Int × Value)), left.length ≤ g ∧ left.Sublist bs ∧ Sat w0 wr (mpi (Value.int .i64) In64 bm b39 (seMap (cur_ bs left lim)) (seMap left) cur :: mcBlk p ⟨sp, ix, st, l, ss⟩ X cx bm :: own 33 1 X cx l.length (recCells ys) :: DV (recData ys) :: resBlk b6 :: SatH (seBlks bs) :: L))
      case atStart => exact ⟨bs, none, Nat.le_refl _, List.Sublist.refl _, by rw [cur_start]; exact (by assumption : Sat w0 w39 _).pick (by (repeat (first | exact Pick.nil _ | exact Pick.tail _ | exact Out.here _ | apply Out.there | apply Pick.cons | apply Pick.drop)))⟩
      case round =>
        obtain ⟨left, cur, hg, hsub, hsC⟩ := hrel
        by_cases hz : left = []
        · subst hz
          rw [cur_end, show seMap [] = ([] : List (Int × Value)) from rfl] at hsC
          refine wk_seq (fun K11 hK11 => ?_)
          refine wk_reg ?_
          refine pl_eff rfl (fun Kp hKp => ?_)
          ((with_reducible apply st_next_done (cur := cur)); assumption; rfl; (repeat (first | with_reducible exact Out.here _ | apply Out.there)))
          have hsE := (Sat.bag_sub (M' := seBlks (bs.filter (keepS lim))) (List.Sublist.map _ List.filter_sublist) (hsC.mpi_end.pick (T := SatH (seBlks bs) :: mcBlk p ⟨sp, ix, st, l, ss1⟩ X cx bm :: own 33 1 X cx l.length (recCells ys) :: DV (recData ys) :: mp (Value.int .i64) In64 bm (seMap (bs.filter (keepS lim))) :: resBlk b6 :: L) (by (repeat (first | exact Pick.nil _ | exact Pick.tail _ | exact Out.here _ | apply Out.there | apply Pick.cons | apply Pick.drop))))).pick (T := mcBlk p ⟨sp, ix, st, l, ss1⟩ X cx bm :: own 33 1 X cx l.length (recCells ys) :: DV (recData ys) :: mp (Value.int .i64) In64 bm (seMap (bs.filter (keepS lim))) :: SatH (seBlks (bs.filter (keepS lim))) :: resBlk b6 :: L) (by (repeat (first | exact Pick.nil _ | exact Pick.tail _ | exact Out.here _ | apply Out.there | apply Pick.cons | apply Pick.drop))); clear hsC; (obtain ⟨bs1, hbs1⟩ : ∃ z, bs.filter (keepS lim) = z := ⟨_, rfl⟩); rw [hbs1] at hsE; have Hst1 : Hid (seStrip bs1 = ss1) := by unfold Hid; rw [← hbs1]; exact Hst.out
          refine hKp.out _ _ ?_
          clear hKp Kp
          (try simp only [Act.put, aP, aZ, aS])
          refine pl_take (v := .bool false) rfl ?_ ?_
          · (go_simp; first | done | with_reducible rfl | rfl | omega | assumption | (simp; omega))
          (try simp only [Act.put, aP, aZ, aS])
          refine pl_done ?_
          refine hK11.out _ _ ?_
          (try clear hK11 K11)
          refine wk_seq (fun K12 hK12 => ?_)
          refine wp_cond_false rfl ?_
          refine wp_exit ?_
          refine hK9.out _ _ ?_
          (try clear hK9 K9)
          refine wk_seq (fun K15 hK15 => ?_)
          refine wk_seq (fun K16 hK16 => ?_)
          refine wk_reg ?_
          refine pl_take (v := ?_) rfl ?_ ?_
          rotate_left
          · (go_simp; first | done | with_reducible rfl | rfl | omega | assumption | (simp; omega))
          (try simp only [Act.put, aP, aZ, aS])
          refine pl_eff rfl (fun Kp hKp => ?_)
          go_simp
          (refine (hCm _ _ (by assumption) (by (repeat (first | with_reducible assumption | with_reducible exact Rd.own | with_reducible exact Rd.nil | with_reducible apply Rd.cons)))).mono ?_; rintro e63 w63 ⟨n, dc, D, hn, rfl, hs63⟩; simp only at hn hs63 ⊢)
          (try go_wp2_with fail)
          refine hKp.out _ _ ?_
          clear hKp Kp
          (try simp only [Act.put, aP, aZ, aS])
          iterate 9 (refine pl_take (v := ?_) rfl ?_ ?_; rotate_left; (· (go_simp; first | done | with_reducible rfl | rfl | omega | assumption | (simp; omega))); (try simp only [Act.put, aP, aZ, aS]))
          refine pl_done ?_
          refine hK16.out _ _ ?_
          (try clear hK16 K16)
          refine wk_seq (fun K17 hK17 => ?_)
          -- at a cut
          have hlk : (seMap bs1).length = ss1.length := by rw [← Hst1.out]; simp [seMap, seStrip]
          have hM1 : Mc.Ok ⟨sp, ix, st, l, ss1⟩ := ⟨⟨hsp1, hsp2⟩, ⟨by simp only; omega, by simp only; omega⟩, hst, by simp only; omega, fun x hx => by have := Hid1.out x hx; simp only; omega⟩
          obtain ⟨m, hm⟩ : ∃ m, ss1.length = m := ⟨_, rfl⟩
          rw [hm] at hlk
          have Hm := Hid.mk' hm
          have HM1 := Hid.mk' hM1
          clear hm hM1 hin
          by_cases k1 : ck = 1
          · subst k1
            by_cases hmm : 16 ≤ m
            · have hmm' : (16 : Int) ≤ (m : Int) := by omega
              have hD : Mc.does ⟨sp, ix, st, l, ss1⟩ ix ⟨1, cx', cy, cd⟩ = (⟨40, 0, 0, 0⟩, ⟨sp, ix, st, l, ss1⟩) := by unfold Mc.does; rw [if_pos rfl, if_pos (by simp only; rw [Hm.out]; exact hmm)]
              obtain rfl := HZ.out.symm.trans hD
              clear hD
              refine wk_reg ?_
              refine pl_take (v := ?_) rfl ?_ ?_
              rotate_left
              · (go_simp; first | done | with_reducible rfl | rfl | omega | assumption | (simp; omega))
              (try simp only [Act.put, aP, aZ, aS])
              refine pl_done ?_
              refine hK17.out _ _ ?_
              (try clear hK17 K17)
              refine wp_block ?_
              refine wk_seq (fun K18 hK18 => ?_)
              refine wk_reg ?_
              iterate 2 (refine pl_take (v := .bool true) rfl ?_ ?_; (· (go_simp; first | done | with_reducible rfl | rfl | omega | assumption | (simp; omega))); (try simp only [Act.put, aP, aZ, aS]))
              refine pl_done ?_
              refine hK18.out _ _ ?_
              (try clear hK18 K18)
              refine wp_cond_true rfl ?_
              refine wk_seq (fun K19 hK19 => ?_)
              refine wk_seq (fun K20 hK20 => ?_)
              refine wk_reg ?_
              iterate 4 (refine pl_take (v := ?_) rfl ?_ ?_; rotate_left; (· (first | ((with_reducible apply yl_load); assumption; rfl; (repeat (first | with_reducible assumption | ((with_reducible apply Cl.own); exact rfl) | ((with_reducible apply Cl.blkL); exact rfl) | with_reducible apply Cl.cons)); rfl) | (go_simp; first | done | with_reducible rfl | rfl | omega | assumption | (simp; omega)))); (try simp only [Act.put, aP, aZ, aS]))
              refine pl_take (v := (.int .i64 m)) rfl ?_ ?_
              · ((with_reducible apply yl_maplenV (κ := Int)); assumption; rfl; (repeat (first | with_reducible exact Out.here _ | apply Out.there)); rw [hlk])
              (try simp only [Act.put, aP, aZ, aS])
              refine pl_take (v := .bool true) rfl ?_ ?_
              · (go_simp; first | done | with_reducible rfl | rfl | omega | assumption | (simp; omega))
              (try simp only [Act.put, aP, aZ, aS])
              refine pl_done ?_
              refine hK20.out _ _ ?_
              (try clear hK20 K20)
              refine wp_cond_true rfl ?_
              refine wk_seq (fun K21 hK21 => ?_)
              refine wk_reg ?_
              refine pl_take (v := ?_) rfl ?_ ?_
              rotate_left
              · (go_simp; first | done | with_reducible rfl | rfl | omega | assumption | (simp; omega))
              (try simp only [Act.put, aP, aZ, aS])
              refine pl_eff rfl (fun Kp hKp => ?_)
              (first | ((with_reducible apply st_storeAll); assumption; rfl; (go_simp; rfl); (repeat (first | with_reducible exact Out.here _ | apply Out.there)); rfl; (focus (first | (simp [Value.oneCell']; done) | (simp [Value.cells, Value.oneCell']; done))); rfl; intro wr17_1 hsr17_1; simp only [Value.cells] at hsr17_1) | ((with_reducible apply st_store); assumption; rfl; (go_simp; rfl); (repeat (first | with_reducible exact Out.here _ | apply Out.there)); rfl; (first | (focus (simp [Value.oneCell']; done)) | (simp [Value.cells, Value.oneCell'])); (first | (focus (simp; done)) | (simp [Value.cells])); intro wr17_1 hsr17_1; simp only [upd, Value.cells] at hsr17_1))
              refine hKp.out _ _ ?_
              clear hKp Kp
              (try dsimp only [Act.put])
              refine pl_take (v := ?_) rfl ?_ ?_
              rotate_left
              · (go_simp; first | done | with_reducible rfl | rfl | omega | assumption | (simp; omega))
              (try simp only [Act.put, aP, aZ, aS])
              refine pl_done ?_
              refine hK21.out _ _ ?_
              (try clear hK21 K21)
              refine wp_ret ?_
              ((try simp only [Exit.inBlock, Exit.then]); refine retC1T rfl rfl (by assumption) (by (repeat (first | exact Out.here _ | apply Out.there))) (by simp) rfl rfl ?_)
              exact ⟨rfl, MR.made (bs := bs1) Hys.out Hst1.out ((by assumption : Sat w0 _ _).pick (by (repeat (first | exact Pick.nil _ | exact Pick.tail _ | exact Out.here _ | apply Out.there | apply Pick.cons | apply Pick.drop))))⟩
            · have hmm' : ¬ (16 : Int) ≤ (m : Int) := by omega
              have hD : Mc.does ⟨sp, ix, st, l, ss1⟩ ix ⟨1, cx', cy, cd⟩ = (⟨0, ix, 0, 0⟩, Mc.opened ⟨sp, ix, st, l, ss1⟩ ix) := by unfold Mc.does; rw [if_pos rfl, if_neg (by simp only; rw [Hm.out]; exact hmm)]
              have hput : ∀ v, mput (seMap bs1) ix v = seMap bs1 ++ [(ix, v)] := fun v => mput_none fun q hq e => by
                obtain ⟨y, hy, rfl⟩ := List.mem_map.1 hq
                have h5 : (y.1, y.2.2) ∈ ss1 := by rw [← Hst1.out]; exact List.mem_map.2 ⟨y, hy, rfl⟩
                have := Hid1.out _ h5
                simp only at this e
                omega
              obtain rfl := HZ.out.symm.trans hD
              clear hD
              refine wk_reg ?_
              refine pl_take (v := ?_) rfl ?_ ?_
              rotate_left
              · (go_simp; first | done | with_reducible rfl | rfl | omega | assumption | (simp; omega))
              (try simp only [Act.put, aP, aZ, aS])
              refine pl_done ?_
              refine hK17.out _ _ ?_
              (try clear hK17 K17)
              refine wp_block ?_
              refine wk_seq (fun K18 hK18 => ?_)
              refine wk_reg ?_
              iterate 2 (refine pl_take (v := .bool true) rfl ?_ ?_; (· (go_simp; first | done | with_reducible rfl | rfl | omega | assumption | (simp; omega))); (try simp only [Act.put, aP, aZ, aS]))
              refine pl_done ?_
              refine hK18.out _ _ ?_
              (try clear hK18 K18)
              refine wp_cond_true rfl ?_
              refine wk_seq (fun K19 hK19 => ?_)
              refine wk_seq (fun K20 hK20 => ?_)
              refine wk_reg ?_
              iterate 4 (refine pl_take (v := ?_) rfl ?_ ?_; rotate_left; (· (first | ((with_reducible apply yl_load); assumption; rfl; (repeat (first | with_reducible assumption | ((with_reducible apply Cl.own); exact rfl) | ((with_reducible apply Cl.blkL); exact rfl) | with_reducible apply Cl.cons)); rfl) | (go_simp; first | done | with_reducible rfl | rfl | omega | assumption | (simp; omega)))); (try simp only [Act.put, aP, aZ, aS]))
              refine pl_take (v := (.int .i64 m)) rfl ?_ ?_
              · ((with_reducible apply yl_maplenV (κ := Int)); assumption; rfl; (repeat (first | with_reducible exact Out.here _ | apply Out.there)); rw [hlk])
              (try simp only [Act.put, aP, aZ, aS])
              refine pl_take (v := .bool false) rfl ?_ ?_
              · (go_simp; first | done | with_reducible rfl | rfl | omega | assumption | (simp; omega))
              (try simp only [Act.put, aP, aZ, aS])
              refine pl_done ?_
              refine hK20.out _ _ ?_
              (try clear hK20 K20)
              refine wp_cond_false rfl ?_
              refine wp_skip ?_
              refine hK19.out _ _ ?_
              (try clear hK19 K19)
              refine wk_seq (fun K22 hK22 => ?_)
              refine wk_reg ?_
              iterate 7 (refine pl_take (v := ?_) rfl ?_ ?_; rotate_left; (· (first | ((with_reducible apply yl_load); assumption; rfl; (repeat (first | with_reducible assumption | ((with_reducible apply Cl.own); exact rfl) | ((with_reducible apply Cl.blkL); exact rfl) | with_reducible apply Cl.cons)); rfl) | (go_simp; first | done | with_reducible rfl | rfl | omega | assumption | (simp; omega)))); (try simp only [Act.put, aP, aZ, aS]))
              refine pl_eff rfl (fun Kp hKp => ?_)
              ((with_reducible apply st_box); assumption; (go_simp; rfl); intro b85 w85 hs85; simp only [Value.cells] at hs85)
              refine hKp.out _ _ ?_
              clear hKp Kp
              (try simp only [Act.put, aP, aZ, aS])
              refine pl_eff rfl (fun Kp hKp => ?_)
              ((with_reducible apply st_mapUpdate (xk := ix) ktInt); assumption; rfl; rfl; (go_simp; rfl); (repeat (first | with_reducible exact Out.here _ | apply Out.there)); exact hx64; intro wr18_8 hsr18_8; rw [hput] at hsr18_8)
              refine hKp.out _ _ ?_
              clear hKp Kp
              (try dsimp only [Act.put])
              refine pl_done ?_
              refine hK22.out _ _ ?_
              (try clear hK22 K22)
              refine wk_seq (fun K23 hK23 => ?_)
              refine wk_reg ?_
              iterate 2 (refine pl_take (v := ?_) rfl ?_ ?_; rotate_left; (· (go_simp; first | done | with_reducible rfl | rfl | omega | assumption | (simp; omega))); (try simp only [Act.put, aP, aZ, aS]))
              refine pl_eff rfl (fun Kp hKp => ?_)
              (first | ((with_reducible apply st_storeAll); assumption; rfl; (go_simp; rfl); (repeat (first | with_reducible exact Out.here _ | apply Out.there)); rfl; (focus (first | (simp [Value.oneCell']; done) | (simp [Value.cells, Value.oneCell']; done))); rfl; intro wr19_2 hsr19_2; simp only [Value.cells] at hsr19_2) | ((with_reducible apply st_store); assumption; rfl; (go_simp; rfl); (repeat (first | with_reducible exact Out.here _ | apply Out.there)); rfl; (first | (focus (simp [Value.oneCell']; done)) | (simp [Value.cells, Value.oneCell'])); (first | (focus (simp; done)) | (simp [Value.cells])); intro wr19_2 hsr19_2; simp only [upd, Value.cells] at hsr19_2))
              refine hKp.out _ _ ?_
              clear hKp Kp
              (try dsimp only [Act.put])
              refine pl_take (v := ?_) rfl ?_ ?_
              rotate_left
              · (go_simp; first | done | with_reducible rfl | rfl | omega | assumption | (simp; omega))
              (try simp only [Act.put, aP, aZ, aS])
              refine pl_done ?_
              refine hK23.out _ _ ?_
              (try clear hK23 K23)
              refine wp_ret ?_
              ((try simp only [Exit.inBlock, Exit.then]); refine retC1T rfl rfl (by assumption) (by (repeat (first | exact Out.here _ | apply Out.there))) (by simp) rfl rfl ?_)
              refine ⟨rfl, MR.made (bs := bs1 ++ [(ix, b85, ⟨0, 0, ix⟩)]) (X := X) (cx := cx) (b := bm) Hys.out (by simp only [Mc.opened]; rw [← Hst1.out]; simp [seStrip]) ?_⟩
              have hfin := (by assumption : Sat w0 _ _).pick (T := seBlk (ix, b85, ⟨0, 0, ix⟩) :: SatH (seBlks bs1) :: mcBlk p ⟨sp, ix, st, l, ss1⟩ X cx bm :: own 33 1 X cx l.length (recCells ys) :: DV (recData ys) :: mp (Value.int .i64) In64 bm (seMap bs1 ++ [(ix, .pointer (some ⟨b85, 0, none⟩))]) :: L) (by simp only [seBlk]; (repeat (first | exact Pick.nil _ | exact Pick.tail _ | exact Out.here _ | apply Out.there | apply Pick.cons | apply Pick.drop)))
              have hbag := hfin.bag_snoc
              simp only [Mc.opened, seBlks, seMap, List.map_append, List.map_cons, List.map_nil] at hbag ⊢
              exact hbag.pick (by (repeat (first | exact Pick.nil _ | exact Pick.tail _ | exact Out.here _ | apply Out.there | apply Pick.cons | apply Pick.drop)))
          · by_cases k2 : ck = 2
            · subst k2
              have hD : Mc.does ⟨sp, ix, st, l, ss1⟩ ix ⟨2, cx', cy, cd⟩ = (⟨(Mc.put ⟨sp, ix, st, l, ss1⟩ cx' cy cd).1.1, 0, (Mc.put ⟨sp, ix, st, l, ss1⟩ cx' cy cd).1.2, 0⟩, (Mc.put ⟨sp, ix, st, l, ss1⟩ cx' cy cd).2) := rfl
              have hPut := fun (w : World) (L' : List HP) (D : Option Addr) (dc n : Nat) (hn : Hid (n = cd.length)) (hs : Sat w0 w (MR p ⟨sp, ix, st, l, ss1⟩ :: own 5 1 D dc n (B8 cd) :: L')) => putMc_spec (dc := dc) cx' cy cd HM1.out (by unfold In64; omega) hll hn hs
              obtain ⟨⟨⟨re, rn⟩, M2⟩, hP⟩ : ∃ z, Mc.put ⟨sp, ix, st, l, ss1⟩ cx' cy cd = z := ⟨_, rfl⟩
              rw [hP] at hPut hD
              obtain rfl := HZ.out.symm.trans hD
              clear hD hP
              refine wk_reg ?_
              refine pl_take (v := ?_) rfl ?_ ?_
              rotate_left
              · (go_simp; first | done | with_reducible rfl | rfl | omega | assumption | (simp; omega))
              (try simp only [Act.put, aP, aZ, aS])
              refine pl_done ?_
              refine hK17.out _ _ ?_
              (try clear hK17 K17)
              refine wp_block ?_
              refine wk_seq (fun K18 hK18 => ?_)
              refine wk_reg ?_
              iterate 2 (refine pl_take (v := .bool false) rfl ?_ ?_; (· (go_simp; first | done | with_reducible rfl | rfl | omega | assumption | (simp; omega))); (try simp only [Act.put, aP, aZ, aS]))
              refine pl_done ?_
              refine hK18.out _ _ ?_
              (try clear hK18 K18)
              refine wp_cond_false rfl ?_
              refine wk_seq (fun K24 hK24 => ?_)
              refine wk_reg ?_
              iterate 2 (refine pl_take (v := .bool true) rfl ?_ ?_; (· (go_simp; first | done | with_reducible rfl | rfl | omega | assumption | (simp; omega))); (try simp only [Act.put, aP, aZ, aS]))
              refine pl_done ?_
              refine hK24.out _ _ ?_
              (try clear hK24 K24)
              refine wp_cond_true rfl ?_
              refine wk_seq (fun K25 hK25 => ?_)
              refine wk_reg ?_
              iterate 4 (refine pl_take (v := ?_) rfl ?_ ?_; rotate_left; (· (go_simp; first | done | with_reducible rfl | rfl | omega | assumption | (simp; omega))); (try simp only [Act.put, aP, aZ, aS]))
              refine pl_eff rfl (fun Kp hKp => ?_)
              go_simp
              (refine (hPut _ _ D dc n hn ((MR.made (bs := bs1) Hys.out Hst1.out ((by assumption : Sat w0 _ _).pick (T := _ :: _ :: _ :: _ :: _ :: own 5 1 D dc n (B8 cd) :: resBlk b6 :: L) (by (repeat (first | exact Pick.nil _ | exact Pick.tail _ | exact Out.here _ | apply Out.there | apply Pick.cons | apply Pick.drop))))))).mono ?_; rintro e94 w94 ⟨rfl, hs94⟩)
              (try go_wp2_with fail)
              refine hKp.out _ _ ?_
              clear hKp Kp
              (try simp only [Act.put, aP, aZ, aS])
              refine pl_eff rfl (fun Kp hKp => ?_)
              (first | ((with_reducible apply st_storeAll); assumption; rfl; (go_simp; rfl); (repeat (first | with_reducible exact Out.here _ | apply Out.there)); rfl; (focus (first | (simp [Value.oneCell']; done) | (simp [Value.cells, Value.oneCell']; done))); rfl; intro wr21_5 hsr21_5; simp only [Value.cells] at hsr21_5) | ((with_reducible apply st_store); assumption; rfl; (go_simp; rfl); (repeat (first | with_reducible exact Out.here _ | apply Out.there)); rfl; (first | (focus (simp [Value.oneCell']; done)) | (simp [Value.cells, Value.oneCell'])); (first | (focus (simp; done)) | (simp [Value.cells])); intro wr21_5 hsr21_5; simp only [upd, Value.cells] at hsr21_5))
              refine hKp.out _ _ ?_
              clear hKp Kp
              (try dsimp only [Act.put])
              refine pl_take (v := ?_) rfl ?_ ?_
              rotate_left
              · (go_simp; first | done | with_reducible rfl | rfl | omega | assumption | (simp; omega))
              (try simp only [Act.put, aP, aZ, aS])
              refine pl_done ?_
              refine hK25.out _ _ ?_
              (try clear hK25 K25)
              refine wp_ret ?_
              ((try simp only [Exit.inBlock, Exit.then]); refine retC1T rfl rfl (by assumption) (by (repeat (first | exact Out.here _ | apply Out.there))) (by simp) rfl rfl ?_)
              exact ⟨rfl, (by assumption : Sat w0 _ _).pick (by (repeat (first | exact Pick.nil _ | exact Pick.tail _ | exact Out.here _ | apply Out.there | apply Pick.cons | apply Pick.drop)))⟩
            · have k1' : (ck == 1) = false := by simpa using k1
              have k2' : (ck == 2) = false := by simpa using k2
              by_cases k3 : ck = 3
              · subst k3
                obtain ⟨m1, hm1⟩ : ∃ m1, (if cx' < st then st else cx') = m1 := ⟨_, rfl⟩
                obtain ⟨to_, hto⟩ : ∃ t, (if st + (l.length : Int) < m1 then st + (l.length : Int) else m1) = t := ⟨_, rfl⟩
                have g1 : m1 = max cx' st := by rw [← hm1]; split <;> omega
                have g2 : to_ = min m1 (st + l.length) := by rw [← hto]; split <;> omega
                have g3 : st ≤ to_ ∧ to_ ≤ st + l.length := by omega
                have hTT : Mc.trimTo ⟨sp, ix, st, l, ss1⟩ cx' = to_ := by unfold Mc.trimTo; simp only; omega
                obtain ⟨k, hk⟩ : ∃ k : Nat, to_ - st = k := ⟨(to_ - st).toNat, by omega⟩
                have hkl : k ≤ l.length := by omega
                have hwk : IntKind.i64.wrap (to_ - st) = (k : Int) := by rw [IntWalk.i64_in _ (by omega)]; exact hk
                obtain ⟨l2, hl2⟩ : ∃ l2, l.drop k = l2 := ⟨_, rfl⟩
                have hD : Mc.does ⟨sp, ix, st, l, ss1⟩ ix ⟨3, cx', cy, cd⟩ = (⟨0, 0, to_, 0⟩, ⟨sp, ix, to_, l2, ss1⟩) := by
                  unfold Mc.does Mc.trim
                  rw [if_neg (by simp), if_neg (by simp), if_pos rfl]
                  simp only [hTT]
                  rw [hk, Int.toNat_natCast, hl2]
                obtain rfl := HZ.out.symm.trans hD
                have hl2n : l2.length = l.length - k := by rw [← hl2]; simp
                obtain ⟨XA, hXA⟩ : ∃ z, (if cx = k then X else X.map (·.add (k * 1))) = z := ⟨_, rfl⟩
                have hcapx : l.length ≤ cx := (hsE.pick (T := own 33 1 X cx l.length (recCells ys) :: L) (by (repeat (first | exact Pick.nil _ | exact Pick.tail _ | exact Out.here _ | apply Out.there | apply Pick.cons | apply Pick.drop)))).own_cap
                have hyl : ys.length = l.length := by have := congrArg List.length Hys.out; simpa using this
                have hwin : ∀ L', Rd w0 L' X l.length 1 (recCells ys) → Rd w0 L' XA l2.length 1 (recCells (ys.drop k)) := fun L' h => by
                  have h5 := rd_win (l := k) (h := l.length) (c := cx) hkl (Nat.le_refl _) hcapx h
                  rw [hXA] at h5
                  rw [hl2n]
                  rwa [Nat.mul_one, Nat.mul_one, List.take_of_length_le (by simp [recCells]; omega), show (recCells ys).drop k = recCells (ys.drop k) from by simp [recCells]] at h5
                have hone : ∀ u ∈ recCells (ys.drop k), u.oneCell' = true := fun u hu => by obtain ⟨y, _, rfl⟩ := List.mem_map.1 hu; rfl
                have hys2 : Hid ((ys.drop k).map (·.1) = l2) := by unfold Hid; rw [← hl2, List.map_drop, Hys.out]
                have hNx := fun (w : World) (L' : List HP) (hs : Sat w0 w L') (h4 : Cl w0 L' ⟨p, 4, none⟩ (.map (some bm))) (h2 : Cl w0 L' ⟨p, 2, none⟩ (.int .i64 st)) (h3 : Cl w0 L' ⟨p, 3, none⟩ (.slice X l.length cx)) => nextM_spec (p := p) (n := l.length) hst (by omega) hs h4 h2 h3
                have Hl2n := Hid.mk' hl2n
                have HXA := Hid.mk' hXA
                have hl2b : l2.length ≤ 1099511627776 := by omega
                clear hD hk hl2 hl2n hXA hTT g1 g2 k1 k2
                refine wk_reg ?_
                refine pl_take (v := ?_) rfl ?_ ?_
                rotate_left
                · (go_simp; first | done | with_reducible rfl | rfl | omega | assumption | (simp; omega))
                (try simp only [Act.put, aP, aZ, aS])
                refine pl_done ?_
                refine hK17.out _ _ ?_
                (try clear hK17 K17)
                refine wp_block ?_
                refine wk_seq (fun K18 hK18 => ?_)
                refine wk_reg ?_
                iterate 2 (refine pl_take (v := .bool false) rfl ?_ ?_; (· (go_simp; first | done | with_reducible rfl | rfl | omega | assumption | (simp; omega))); (try simp only [Act.put, aP, aZ, aS]))
                refine pl_done ?_
                refine hK18.out _ _ ?_
                (try clear hK18 K18)
                refine wp_cond_false rfl ?_
                refine wk_seq (fun K24 hK24 => ?_)
                refine wk_reg ?_
                iterate 2 (refine pl_take (v := .bool false) rfl ?_ ?_; (· (go_simp; first | done | with_reducible rfl | rfl | omega | assumption | (simp; omega))); (try simp only [Act.put, aP, aZ, aS]))
                refine pl_done ?_
                refine hK24.out _ _ ?_
                (try clear hK24 K24)
                refine wp_cond_false rfl ?_
                refine wk_seq (fun K26 hK26 => ?_)
                refine wk_reg ?_
                iterate 2 (refine pl_take (v := .bool true) rfl ?_ ?_; (· (go_simp; first | done | with_reducible rfl | rfl | omega | assumption | (simp; omega))); (try simp only [Act.put, aP, aZ, aS]))
                refine pl_done ?_
                refine hK26.out _ _ ?_
                (try clear hK26 K26)
                refine wp_cond_true rfl ?_
                refine wk_seq (fun K27 hK27 => ?_)
                refine rg_start rfl (by assumption) (fun wr23 hsr23 => ?_)
                refine rg_take (i := 0) (v := ?_) rfl (by kernel_rfl) (by kernel_rfl) (by kernel_rfl) (fun _ _ _ h => h) rfl (by assumption) ?_ ?_
                rotate_left
                · intro w hSw; (go_simp; first | done | with_reducible rfl | rfl | omega | assumption | (simp; omega))
                (try simp only [Act.put, aP, aZ, aS])
                refine rg_take (i := 1) (v := ?_) rfl (by kernel_rfl) (by kernel_rfl) (by kernel_rfl) (fun _ _ _ h => h) rfl (by assumption) ?_ ?_
                rotate_left
                · intro w hSw; (go_simp; first | done | with_reducible rfl | rfl | omega | assumption | (simp; omega))
                (try simp only [Act.put, aP, aZ, aS])
                refine rg_take (i := 2) (v := ?_) rfl (by kernel_rfl) (by kernel_rfl) (by kernel_rfl) (fun _ _ _ h => h) rfl (by assumption) ?_ ?_
                rotate_left
                · intro w hSw; (go_simp; first | done | with_reducible rfl | rfl | omega | assumption | (simp; omega))
                (try simp only [Act.put, aP, aZ, aS])
                refine rg_take (i := 3) (v := ?_) rfl (by kernel_rfl) (by kernel_rfl) (by kernel_rfl) (fun _ _ _ h => h) rfl (by assumption) ?_ ?_
                rotate_left
                · intro w hSw; (go_simp; first | done | with_reducible rfl | rfl | omega | assumption | (simp; omega))
                (try simp only [Act.put, aP, aZ, aS])
                refine rg_take (i := 4) (v := ?_) rfl (by kernel_rfl) (by kernel_rfl) (by kernel_rfl) (fun _ _ _ h => h) rfl (by assumption) ?_ ?_
                rotate_left
                · intro w hSw; ((with_reducible apply yl_load); assumption; rfl; (repeat (first | with_reducible assumption | ((with_reducible apply Cl.own); exact rfl) | ((with_reducible apply Cl.blkL); exact rfl) | with_reducible apply Cl.cons)); rfl)
                (try simp only [Act.put, aP, aZ, aS])
                refine rg_take (i := 5) (v := ?_) rfl (by kernel_rfl) (by kernel_rfl) (by kernel_rfl) (fun _ _ _ h => h) rfl (by assumption) ?_ ?_
                rotate_left
                · intro w hSw; (go_simp; first | done | with_reducible rfl | rfl | omega | assumption | (simp; omega))
                (try simp only [Act.put, aP, aZ, aS])
                refine rg_take (i := 6) (v := ?_) rfl (by kernel_rfl) (by kernel_rfl) (by kernel_rfl) (fun _ _ _ h => h) rfl (by assumption) ?_ ?_
                rotate_left
                · intro w hSw; (go_simp; first | done | with_reducible rfl | rfl | omega | assumption | (simp; omega))
                (try simp only [Act.put, aP, aZ, aS])
                refine rg_one (i := 7) (by kernel_rfl) rfl rfl (fun Kp hKp => ?_)
                go_simp
                (refine (hNx _ _ (by assumption) (by (repeat (first | with_reducible assumption | ((with_reducible apply Cl.own); exact rfl) | ((with_reducible apply Cl.blkL); exact rfl) | with_reducible apply Cl.cons))) (by (repeat (first | with_reducible assumption | ((with_reducible apply Cl.own); exact rfl) | ((with_reducible apply Cl.blkL); exact rfl) | with_reducible apply Cl.cons))) (by (repeat (first | with_reducible assumption | ((with_reducible apply Cl.own); exact rfl) | ((with_reducible apply Cl.blkL); exact rfl) | with_reducible apply Cl.cons)))).mono ?_; rintro e104 w104 ⟨rfl, hs104⟩)
                (try go_wp2_with fail)
                refine rg_back (hK := hKp) ?_ (fun hsk104 => ?_)
                · (first | assumption | (apply Sat.drew; assumption) | (apply Sat.pick; assumption; (repeat (first | exact Pick.nil _ | with_reducible exact Pick.tail _ | with_reducible exact Out.here _ | apply Out.there | apply Pick.cons | apply Pick.drop))))
                clear hKp Kp
                have hsz104 := hs104
                (try simp only [Act.put, aP, aZ, aS])
                refine rg_take (i := 8) (v := ?_) rfl (by kernel_rfl) (by kernel_rfl) (by kernel_rfl) (fun _ _ _ h => h) rfl (by assumption) ?_ ?_
                rotate_left
                · intro w hSw; (go_simp; first | done | with_reducible rfl | rfl | omega | assumption | (simp; omega))
                (try simp only [Act.put, aP, aZ, aS])
                refine rg_take (i := 9) (v := ?_) rfl (by kernel_rfl) (by kernel_rfl) (by kernel_rfl) (fun _ _ _ h => h) rfl (by assumption) ?_ ?_
                rotate_left
                · intro w hSw; (go_simp; first | done | with_reducible rfl | rfl | omega | assumption | (simp; omega))
                (try simp only [Act.put, aP, aZ, aS])
                refine rg_done (by kernel_rfl) ?_
                refine hK27.out _ _ ?_
                (try clear hK27 K27)
                refine wk_seq (fun K28 hK28 => ?_)
                refine rg_start2 (L := own 33 1 X cx l.length (recCells ys) :: DV (recData ys) :: mp (Value.int .i64) In64 bm (seMap bs1) :: SatH (seBlks bs1) :: resBlk b6 :: L) rfl (by assumption) (by (repeat (first | exact Pick.nil _ | with_reducible exact Pick.tail _ | with_reducible exact Out.here _ | apply Out.there | apply Pick.cons | apply Pick.drop))) (fun wr24 hsr24 hsq24 => ?_)
                have hsz24 := hsr24
                refine rg_take (i := 0) (v := ?_) rfl (by kernel_rfl) (by kernel_rfl) (by kernel_rfl) (fun _ _ _ h => h) rfl (by assumption) ?_ ?_
                rotate_left
                · intro w hSw; (go_simp; first | done | with_reducible rfl | rfl | omega | assumption | (simp; omega))
                (try simp only [Act.put, aP, aZ, aS])
                refine rg_take (i := 1) (v := ?_) rfl (by kernel_rfl) (by kernel_rfl) (by kernel_rfl) (fun _ _ _ h => h) rfl (by assumption) ?_ ?_
                rotate_left
                · intro w hSw; (go_simp; first | done | with_reducible rfl | rfl | omega | assumption | (simp; omega))
                (try simp only [Act.put, aP, aZ, aS])
                refine rg_take (i := 2) (v := ?_) rfl (by kernel_rfl) (by kernel_rfl) (by kernel_rfl) (fun _ _ _ h => h) rfl (by assumption) ?_ ?_
                rotate_left
                · intro w hSw; (go_simp; first | done | with_reducible rfl | rfl | omega | assumption | (simp; omega))
                (try simp only [Act.put, aP, aZ, aS])
                refine rg_take (i := 3) (v := ?_) rfl (by kernel_rfl) (by kernel_rfl) (by kernel_rfl) (fun _ _ _ h => h) rfl (by assumption) ?_ ?_
                rotate_left
                · intro w hSw; (go_simp; first | done | with_reducible rfl | rfl | omega | assumption | (simp; omega))
                (try simp only [Act.put, aP, aZ, aS])
                refine rg_take (i := 4) (v := ?_) rfl (by kernel_rfl) (by kernel_rfl) (by kernel_rfl) (fun _ _ _ h => h) rfl (by assumption) ?_ ?_
                rotate_left
                · intro w hSw; (go_simp; first | done | with_reducible rfl | rfl | omega | assumption | (simp; omega))
                (try simp only [Act.put, aP, aZ, aS])
                refine rg_take (i := 6) (v := ?_) rfl (by kernel_rfl) (by kernel_rfl) (by kernel_rfl) (fun _ _ _ h => h) rfl (by assumption) ?_ ?_
                rotate_left
                · intro w hSw; (go_simp; first | done | with_reducible rfl | rfl | omega | assumption | (simp; omega))
                (try simp only [Act.put, aP, aZ, aS])
                refine rg_take (i := 7) (v := ?_) rfl (by kernel_rfl) (by kernel_rfl) (by kernel_rfl) (fun _ _ _ h => h) rfl (by assumption) ?_ ?_
                rotate_left
                · intro w hSw; (go_simp; first | done | with_reducible rfl | rfl | omega | assumption | (simp; omega))
                (try simp only [Act.put, aP, aZ, aS])
                refine rg_take (i := 8) (v := ?_) rfl (by kernel_rfl) (by kernel_rfl) (by kernel_rfl) (fun _ _ _ h => h) rfl (by assumption) ?_ ?_
                rotate_left
                · intro w hSw; (go_simp; first | done | with_reducible rfl | rfl | omega | assumption | (simp; omega))
                (try simp only [Act.put, aP, aZ, aS])
                refine rg_take (i := 9) (v := ?_) rfl (by kernel_rfl) (by kernel_rfl) (by kernel_rfl) (fun _ _ _ h => h) rfl (by assumption) ?_ ?_
                rotate_left
                · intro w hSw; (go_simp; first | done | with_reducible rfl | rfl | omega | assumption | (simp; omega))
                (try simp only [Act.put, aP, aZ, aS])
                refine rg_take (i := 14) (v := ?_) rfl (by kernel_rfl) (by kernel_rfl) (by kernel_rfl) (fun _ _ _ h => h) rfl (by assumption) ?_ ?_
                rotate_left
                · intro w hSw; (go_simp; first | done | with_reducible rfl | rfl | omega | assumption | (simp; omega))
                (try simp only [Act.put, aP, aZ, aS])
                refine rg_two (i := 5) (j := 10) (by kernel_rfl) rfl rfl rfl rfl (fun Kp hKp => ?_) (fun Kp hKp => ?_)
                · ((with_reducible apply st_load); assumption; rfl; (repeat (first | with_reducible assumption | ((with_reducible apply Cl.own); exact rfl) | ((with_reducible apply Cl.blkL); exact rfl) | with_reducible apply Cl.cons)))
                  refine rg_back (hK := hKp) ?_ (fun hsk111 => ?_)
                  · (first | assumption | (apply Sat.drew; assumption) | (apply Sat.pick; assumption; (repeat (first | exact Pick.nil _ | with_reducible exact Pick.tail _ | with_reducible exact Out.here _ | apply Out.there | apply Pick.cons | apply Pick.drop))))
                  clear hKp Kp
                  have hsz111 := hsr24
                  (try simp only [Act.put, aP, aZ, aS])
                  refine rg_one (i := 10) (by kernel_rfl) rfl rfl (fun Kp hKp => ?_)
                  ((with_reducible apply st_load); assumption; rfl; (repeat (first | with_reducible assumption | ((with_reducible apply Cl.own); exact rfl) | ((with_reducible apply Cl.blkL); exact rfl) | with_reducible apply Cl.cons)))
                  refine rg_back (hK := hKp) ?_ (fun hsk116 => ?_)
                  · (first | assumption | (apply Sat.drew; assumption) | (apply Sat.pick; assumption; (repeat (first | exact Pick.nil _ | with_reducible exact Pick.tail _ | with_reducible exact Out.here _ | apply Out.there | apply Pick.cons | apply Pick.drop))))
                  clear hKp Kp
                  have hsz116 := hsr24
                  (try simp only [Act.put, aP, aZ, aS])
                  refine rg_take (i := 11) (v := ?_) rfl (by kernel_rfl) (by kernel_rfl) (by kernel_rfl) (fun _ _ _ h => h) rfl (by assumption) ?_ ?_
                  rotate_left
                  · intro w hSw; (go_simp; first | done | with_reducible rfl | rfl | omega | assumption | (simp; omega))
                  (try simp only [Act.put, aP, aZ, aS])
                  refine rg_take (i := 12) (v := (.slice XA l2.length (cx - k))) rfl (by kernel_rfl) (by kernel_rfl) (by kernel_rfl) (fun _ _ _ h => h) rfl (by assumption) ?_ ?_
                  · intro w hSw; ((with_reducible apply yl_sliceLo k); rfl; rfl; rfl; omega; rw [HXA.out, Hl2n.out])
                  (try simp only [Act.put, aP, aZ, aS])
                  refine rg_one (i := 13) (by kernel_rfl) rfl rfl (fun Kp hKp => ?_)
                  go_simp
                  (refine (clone2_spec (recCells (ys.drop k)) hl2b hone (by assumption) (hwin _ (by (repeat (first | with_reducible assumption | with_reducible exact Rd.own | with_reducible exact Rd.nil | with_reducible apply Rd.cons))))).mono ?_; rintro e119 w119 ⟨Y119, y119, rfl, hs119⟩)
                  (try go_wp2_with fail)
                  refine rg_back (hK := hKp) ?_ (fun hsk119 => ?_)
                  · (first | assumption | (apply Sat.drew; assumption) | (apply Sat.pick; assumption; (repeat (first | exact Pick.nil _ | with_reducible exact Pick.tail _ | with_reducible exact Out.here _ | apply Out.there | apply Pick.cons | apply Pick.drop))))
                  clear hKp Kp
                  have hsz119 := hs119
                  (try simp only [Act.put, aP, aZ, aS])
                  refine rg_take (i := 15) (v := ?_) rfl (by kernel_rfl) (by kernel_rfl) (by kernel_rfl) (fun _ _ _ h => h) rfl (by assumption) ?_ ?_
                  rotate_left
                  · intro w hSw; (go_simp; first | done | with_reducible rfl | rfl | omega | assumption | (simp; omega))
                  (try simp only [Act.put, aP, aZ, aS])
                  refine rg_take (i := 16) (v := ?_) rfl (by kernel_rfl) (by kernel_rfl) (by kernel_rfl) (fun _ _ _ h => h) rfl (by assumption) ?_ ?_
                  rotate_left
                  · intro w hSw; (go_simp; first | done | with_reducible rfl | rfl | omega | assumption | (simp; omega))
                  (try simp only [Act.put, aP, aZ, aS])
                  refine rg_one (i := 17) (by kernel_rfl) rfl rfl (fun Kp hKp => ?_)
                  (first | ((with_reducible apply st_store1); assumption; rfl; (go_simp; rfl); (repeat (first | with_reducible exact Out.here _ | apply Out.there)); rfl; rfl; simp; intro wr24_17 hsr24_17; (try simp only [aP] at hsr24_17); (try simp only [aS] at hsr24_17); (try simp only [aZ] at hsr24_17)) | ((with_reducible apply st_store_own); assumption; rfl; (go_simp; rfl); (repeat (first | with_reducible exact Out.here _ | apply Out.there)); rfl; rfl; omega; intro wr24_17 hsr24_17))
                  refine rg_back (hK := hKp) ?_ (fun hskr24_17 => ?_)
                  · (first | assumption | (apply Sat.drew; assumption) | (apply Sat.pick; assumption; (repeat (first | exact Pick.nil _ | with_reducible exact Pick.tail _ | with_reducible exact Out.here _ | apply Out.there | apply Pick.cons | apply Pick.drop))))
                  clear hKp Kp
                  have hszr24_17 := hsr24_17
                  (try dsimp only [Act.put])
                  refine rg_take (i := 18) (v := ?_) rfl (by kernel_rfl) (by kernel_rfl) (by kernel_rfl) (fun _ _ _ h => h) rfl (by assumption) ?_ ?_
                  rotate_left
                  · intro w hSw; (go_simp; first | done | with_reducible rfl | rfl | omega | assumption | (simp; omega))
                  (try simp only [Act.put, aP, aZ, aS])
                  refine rg_take (i := 19) (v := ?_) rfl (by kernel_rfl) (by kernel_rfl) (by kernel_rfl) (fun _ _ _ h => h) rfl (by assumption) ?_ ?_
                  rotate_left
                  · intro w hSw; (go_simp; first | done | with_reducible rfl | rfl | omega | assumption | (simp; omega))
                  (try simp only [Act.put, aP, aZ, aS])
                  refine rg_one (i := 20) (by kernel_rfl) rfl rfl (fun Kp hKp => ?_)
                  (first | ((with_reducible apply st_store1); assumption; rfl; (go_simp; rfl); (repeat (first | with_reducible exact Out.here _ | apply Out.there)); rfl; rfl; simp; intro wr24_20 hsr24_20; (try simp only [aP] at hsr24_20); (try simp only [aS] at hsr24_20); (try simp only [aZ] at hsr24_20)) | ((with_reducible apply st_store_own); assumption; rfl; (go_simp; rfl); (repeat (first | with_reducible exact Out.here _ | apply Out.there)); rfl; rfl; omega; intro wr24_20 hsr24_20))
                  refine rg_back (hK := hKp) ?_ (fun hskr24_20 => ?_)
                  · (first | assumption | (apply Sat.drew; assumption) | (apply Sat.pick; assumption; (repeat (first | exact Pick.nil _ | with_reducible exact Pick.tail _ | with_reducible exact Out.here _ | apply Out.there | apply Pick.cons | apply Pick.drop))))
                  clear hKp Kp
                  have hszr24_20 := hsr24_20
                  (try dsimp only [Act.put])
                  refine rg_done (by kernel_rfl) ?_
                  refine hK28.out _ _ ?_
                  (try clear hK28 K28)
                  refine wk_seq (fun K29 hK29 => ?_)
                  refine wk_reg ?_
                  iterate 2 (refine pl_take (v := ?_) rfl ?_ ?_; rotate_left; (· (go_simp; first | done | with_reducible rfl | rfl | omega | assumption | (simp; omega))); (try simp only [Act.put, aP, aZ, aS]))
                  refine pl_eff rfl (fun Kp hKp => ?_)
                  (first | ((with_reducible apply st_storeAll); assumption; rfl; (go_simp; rfl); (repeat (first | with_reducible exact Out.here _ | apply Out.there)); rfl; (focus (first | (simp [Value.oneCell']; done) | (simp [Value.cells, Value.oneCell']; done))); rfl; intro wr25_2 hsr25_2; simp only [Value.cells] at hsr25_2) | ((with_reducible apply st_store); assumption; rfl; (go_simp; rfl); (repeat (first | with_reducible exact Out.here _ | apply Out.there)); rfl; (first | (focus (simp [Value.oneCell']; done)) | (simp [Value.cells, Value.oneCell'])); (first | (focus (simp; done)) | (simp [Value.cells])); intro wr25_2 hsr25_2; simp only [upd, Value.cells] at hsr25_2))
                  refine hKp.out _ _ ?_
                  clear hKp Kp
                  (try dsimp only [Act.put])
                  refine pl_take (v := ?_) rfl ?_ ?_
                  rotate_left
                  · (go_simp; first | done | with_reducible rfl | rfl | omega | assumption | (simp; omega))
                  (try simp only [Act.put, aP, aZ, aS])
                  refine pl_done ?_
                  refine hK29.out _ _ ?_
                  (try clear hK29 K29)
                  refine wp_ret ?_
                  ((try simp only [Exit.inBlock, Exit.then]); refine retC1T rfl rfl (by assumption) (by (repeat (first | exact Out.here _ | apply Out.there))) (by simp) rfl rfl ?_)
                  exact ⟨rfl, MR.made (bs := bs1) (ys := ys.drop k) (X := Y119) (cx := y119) (b := bm) hys2.out Hst1.out ((Sat.dv_sub (l' := recData (ys.drop k)) (fun y hy => by obtain ⟨z, hz, rfl⟩ := List.mem_map.1 hy; exact List.mem_map_of_mem (List.mem_of_mem_drop hz)) ((by assumption : Sat w0 _ _).pick (T := DV (recData ys) :: mcBlk p ⟨sp, ix, to_, l2, ss1⟩ Y119 y119 bm :: own 33 1 Y119 y119 l2.length (recCells (ys.drop k)) :: mp (Value.int .i64) In64 bm (seMap bs1) :: SatH (seBlks bs1) :: L) (by (repeat (first | exact Pick.nil _ | exact Pick.tail _ | exact Out.here _ | apply Out.there | apply Pick.cons | apply Pick.drop))))).pick (by (repeat (first | exact Pick.nil _ | exact Pick.tail _ | exact Out.here _ | apply Out.there | apply Pick.cons | apply Pick.drop))))⟩
                · ((with_reducible apply st_load); assumption; rfl; (repeat (first | with_reducible assumption | ((with_reducible apply Cl.own); exact rfl) | ((with_reducible apply Cl.blkL); exact rfl) | with_reducible apply Cl.cons)))
                  refine rg_back (hK := hKp) ?_ (fun hsk116 => ?_)
                  · (first | assumption | (apply Sat.drew; assumption) | (apply Sat.pick; assumption; (repeat (first | exact Pick.nil _ | with_reducible exact Pick.tail _ | with_reducible exact Out.here _ | apply Out.there | apply Pick.cons | apply Pick.drop))))
                  clear hKp Kp
                  have hsz116 := hsr24
                  (try simp only [Act.put, aP, aZ, aS])
                  refine rg_take (i := 11) (v := ?_) rfl (by kernel_rfl) (by kernel_rfl) (by kernel_rfl) (fun _ _ _ h => h) rfl (by assumption) ?_ ?_
                  rotate_left
                  · intro w hSw; (go_simp; first | done | with_reducible rfl | rfl | omega | assumption | (simp; omega))
                  (try simp only [Act.put, aP, aZ, aS])
                  refine rg_one (i := 5) (by kernel_rfl) rfl rfl (fun Kp hKp => ?_)
                  ((with_reducible apply st_load); assumption; rfl; (repeat (first | with_reducible assumption | ((with_reducible apply Cl.own); exact rfl) | ((with_reducible apply Cl.blkL); exact rfl) | with_reducible apply Cl.cons)))
                  refine rg_back (hK := hKp) ?_ (fun hsk111 => ?_)
                  · (first | assumption | (apply Sat.drew; assumption) | (apply Sat.pick; assumption; (repeat (first | exact Pick.nil _ | with_reducible exact Pick.tail _ | with_reducible exact Out.here _ | apply Out.there | apply Pick.cons | apply Pick.drop))))
                  clear hKp Kp
                  have hsz111 := hsr24
                  (try simp only [Act.put, aP, aZ, aS])
                  refine rg_take (i := 12) (v := (.slice XA l2.length (cx - k))) rfl (by kernel_rfl) (by kernel_rfl) (by kernel_rfl) (fun _ _ _ h => h) rfl (by assumption) ?_ ?_
                  · intro w hSw; ((with_reducible apply yl_sliceLo k); rfl; rfl; rfl; omega; rw [HXA.out, Hl2n.out])
                  (try simp only [Act.put, aP, aZ, aS])
                  refine rg_one (i := 13) (by kernel_rfl) rfl rfl (fun Kp hKp => ?_)
                  go_simp
                  (refine (clone2_spec (recCells (ys.drop k)) hl2b hone (by assumption) (hwin _ (by (repeat (first | with_reducible assumption | with_reducible exact Rd.own | with_reducible exact Rd.nil | with_reducible apply Rd.cons))))).mono ?_; rintro e119 w119 ⟨Y119, y119, rfl, hs119⟩)
                  (try go_wp2_with fail)
                  refine rg_back (hK := hKp) ?_ (fun hsk119 => ?_)
                  · (first | assumption | (apply Sat.drew; assumption) | (apply Sat.pick; assumption; (repeat (first | exact Pick.nil _ | with_reducible exact Pick.tail _ | with_reducible exact Out.here _ | apply Out.there | apply Pick.cons | apply Pick.drop))))
                  clear hKp Kp
                  have hsz119 := hs119
                  (try simp only [Act.put, aP, aZ, aS])
                  refine rg_take (i := 15) (v := ?_) rfl (by kernel_rfl) (by kernel_rfl) (by kernel_rfl) (fun _ _ _ h => h) rfl (by assumption) ?_ ?_
                  rotate_left
                  · intro w hSw; (go_simp; first | done | with_reducible rfl | rfl | omega | assumption | (simp; omega))
                  (try simp only [Act.put, aP, aZ, aS])
                  refine rg_take (i := 16) (v := ?_) rfl (by kernel_rfl) (by kernel_rfl) (by kernel_rfl) (fun _ _ _ h => h) rfl (by assumption) ?_ ?_
                  rotate_left
                  · intro w hSw; (go_simp; first | done | with_reducible rfl | rfl | omega | assumption | (simp; omega))
                  (try simp only [Act.put, aP, aZ, aS])
                  refine rg_one (i := 17) (by kernel_rfl) rfl rfl (fun Kp hKp => ?_)
                  (first | ((with_reducible apply st_store1); assumption; rfl; (go_simp; rfl); (repeat (first | with_reducible exact Out.here _ | apply Out.there)); rfl; rfl; simp; intro wr24_17 hsr24_17; (try simp only [aP] at hsr24_17); (try simp only [aS] at hsr24_17); (try simp only [aZ] at hsr24_17)) | ((with_reducible apply st_store_own); assumption; rfl; (go_simp; rfl); (repeat (first | with_reducible exact Out.here _ | apply Out.there)); rfl; rfl; omega; intro wr24_17 hsr24_17))
                  refine rg_back (hK := hKp) ?_ (fun hskr24_17 => ?_)
                  · (first | assumption | (apply Sat.drew; assumption) | (apply Sat.pick; assumption; (repeat (first | exact Pick.nil _ | with_reducible exact Pick.tail _ | with_reducible exact Out.here _ | apply Out.there | apply Pick.cons | apply Pick.drop))))
                  clear hKp Kp
                  have hszr24_17 := hsr24_17
                  (try dsimp only [Act.put])
                  refine rg_take (i := 18) (v := ?_) rfl (by kernel_rfl) (by kernel_rfl) (by kernel_rfl) (fun _ _ _ h => h) rfl (by assumption) ?_ ?_
                  rotate_left
                  · intro w hSw; (go_simp; first | done | with_reducible rfl | rfl | omega | assumption | (simp; omega))
                  (try simp only [Act.put, aP, aZ, aS])
                  refine rg_take (i := 19) (v := ?_) rfl (by kernel_rfl) (by kernel_rfl) (by kernel_rfl) (fun _ _ _ h => h) rfl (by assumption) ?_ ?_
                  rotate_left
                  · intro w hSw; (go_simp; first | done | with_reducible rfl | rfl | omega | assumption | (simp; omega))
                  (try simp only [Act.put, aP, aZ, aS])
                  refine rg_one (i := 20) (by kernel_rfl) rfl rfl (fun Kp hKp => ?_)
                  (first | ((with_reducible apply st_store1); assumption; rfl; (go_simp; rfl); (repeat (first | with_reducible exact Out.here _ | apply Out.there)); rfl; rfl; simp; intro wr24_20 hsr24_20; (try simp only [aP] at hsr24_20); (try simp only [aS] at hsr24_20); (try simp only [aZ] at hsr24_20)) | ((with_reducible apply st_store_own); assumption; rfl; (go_simp; rfl); (repeat (first | with_reducible exact Out.here _ | apply Out.there)); rfl; rfl; omega; intro wr24_20 hsr24_20))
                  refine rg_back (hK := hKp) ?_ (fun hskr24_20 => ?_)
                  · (first | assumption | (apply Sat.drew; assumption) | (apply Sat.pick; assumption; (repeat (first | exact Pick.nil _ | with_reducible exact Pick.tail _ | with_reducible exact Out.here _ | apply Out.there | apply Pick.cons | apply Pick.drop))))
                  clear hKp Kp
                  have hszr24_20 := hsr24_20
                  (try dsimp only [Act.put])
                  refine rg_done (by kernel_rfl) ?_
                  refine hK28.out _ _ ?_
                  (try clear hK28 K28)
                  refine wk_seq (fun K29 hK29 => ?_)
                  refine wk_reg ?_
                  iterate 2 (refine pl_take (v := ?_) rfl ?_ ?_; rotate_left; (· (go_simp; first | done | with_reducible rfl | rfl | omega | assumption | (simp; omega))); (try simp only [Act.put, aP, aZ, aS]))
                  refine pl_eff rfl (fun Kp hKp => ?_)
                  (first | ((with_reducible apply st_storeAll); assumption; rfl; (go_simp; rfl); (repeat (first | with_reducible exact Out.here _ | apply Out.there)); rfl; (focus (first | (simp [Value.oneCell']; done) | (simp [Value.cells, Value.oneCell']; done))); rfl; intro wr25_2 hsr25_2; simp only [Value.cells] at hsr25_2) | ((with_reducible apply st_store); assumption; rfl; (go_simp; rfl); (repeat (first | with_reducible exact Out.here _ | apply Out.there)); rfl; (first | (focus (simp [Value.oneCell']; done)) | (simp [Value.cells, Value.oneCell'])); (first | (focus (simp; done)) | (simp [Value.cells])); intro wr25_2 hsr25_2; simp only [upd, Value.cells] at hsr25_2))
                  refine hKp.out _ _ ?_
                  clear hKp Kp
                  (try dsimp only [Act.put])
                  refine pl_take (v := ?_) rfl ?_ ?_
                  rotate_left
                  · (go_simp; first | done | with_reducible rfl | rfl | omega | assumption | (simp; omega))
                  (try simp only [Act.put, aP, aZ, aS])
                  refine pl_done ?_
                  refine hK29.out _ _ ?_
                  (try clear hK29 K29)
                  refine wp_ret ?_
                  ((try simp only [Exit.inBlock, Exit.then]); refine retC1T rfl rfl (by assumption) (by (repeat (first | exact Out.here _ | apply Out.there))) (by simp) rfl rfl ?_)
                  exact ⟨rfl, MR.made (bs := bs1) (ys := ys.drop k) (X := Y119) (cx := y119) (b := bm) hys2.out Hst1.out ((Sat.dv_sub (l' := recData (ys.drop k)) (fun y hy => by obtain ⟨z, hz, rfl⟩ := List.mem_map.1 hy; exact List.mem_map_of_mem (List.mem_of_mem_drop hz)) ((by assumption : Sat w0 _ _).pick (T := DV (recData ys) :: mcBlk p ⟨sp, ix, to_, l2, ss1⟩ Y119 y119 bm :: own 33 1 Y119 y119 l2.length (recCells (ys.drop k)) :: mp (Value.int .i64) In64 bm (seMap bs1) :: SatH (seBlks bs1) :: L) (by (repeat (first | exact Pick.nil _ | exact Pick.tail _ | exact Out.here _ | apply Out.there | apply Pick.cons | apply Pick.drop))))).pick (by (repeat (first | exact Pick.nil _ | exact Pick.tail _ | exact Out.here _ | apply Out.there | apply Pick.cons | apply Pick.drop))))⟩
              · have k3' : (ck == 3) = false := by simpa using k3
                have hD : Mc.does ⟨sp, ix, st, l, ss1⟩ ix ⟨ck, cx', cy, cd⟩ = (⟨21, 0, 0, 0⟩, ⟨sp, ix, st, l, ss1⟩) := by unfold Mc.does; rw [if_neg k1, if_neg k2, if_neg k3]
                obtain rfl := HZ.out.symm.trans hD
                clear hD k1 k2 k3
                refine wk_reg ?_
                refine pl_take (v := ?_) rfl ?_ ?_
                rotate_left
                · (go_simp; first | done | with_reducible rfl | rfl | omega | assumption | (simp; omega))
                (try simp only [Act.put, aP, aZ, aS])
                refine pl_done ?_
                refine hK17.out _ _ ?_
                (try clear hK17 K17)
                refine wp_block ?_
                refine wk_seq (fun K18 hK18 => ?_)
                refine wk_reg ?_
                iterate 2 (refine pl_take (v := .bool false) rfl ?_ ?_; (· (go_simp; first | done | with_reducible rfl | rfl | omega | assumption | (simp; omega))); (try simp only [Act.put, aP, aZ, aS]))
                refine pl_done ?_
                refine hK18.out _ _ ?_
                (try clear hK18 K18)
                refine wp_cond_false rfl ?_
                refine wk_seq (fun K24 hK24 => ?_)
                refine wk_reg ?_
                iterate 2 (refine pl_take (v := .bool false) rfl ?_ ?_; (· (go_simp; first | done | with_reducible rfl | rfl | omega | assumption | (simp; omega))); (try simp only [Act.put, aP, aZ, aS]))
                refine pl_done ?_
                refine hK24.out _ _ ?_
                (try clear hK24 K24)
                refine wp_cond_false rfl ?_
                refine wk_seq (fun K26 hK26 => ?_)
                refine wk_reg ?_
                iterate 2 (refine pl_take (v := .bool false) rfl ?_ ?_; (· (go_simp; first | done | with_reducible rfl | rfl | omega | assumption | (simp; omega))); (try simp only [Act.put, aP, aZ, aS]))
                refine pl_done ?_
                refine hK26.out _ _ ?_
                (try clear hK26 K26)
                refine wp_cond_false rfl ?_
                refine wp_skip ?_
                refine hK15.out _ _ ?_
                (try clear hK15 K15)
                refine wk_seq (fun K30 hK30 => ?_)
                refine wk_reg ?_
                refine pl_take (v := ?_) rfl ?_ ?_
                rotate_left
                · (go_simp; first | done | with_reducible rfl | rfl | omega | assumption | (simp; omega))
                (try simp only [Act.put, aP, aZ, aS])
                refine pl_eff rfl (fun Kp hKp => ?_)
                (first | ((with_reducible apply st_storeAll); assumption; rfl; (go_simp; rfl); (repeat (first | with_reducible exact Out.here _ | apply Out.there)); rfl; (focus (first | (simp [Value.oneCell']; done) | (simp [Value.cells, Value.oneCell']; done))); rfl; intro wr26_1 hsr26_1; simp only [Value.cells] at hsr26_1) | ((with_reducible apply st_store); assumption; rfl; (go_simp; rfl); (repeat (first | with_reducible exact Out.here _ | apply Out.there)); rfl; (first | (focus (simp [Value.oneCell']; done)) | (simp [Value.cells, Value.oneCell'])); (first | (focus (simp; done)) | (simp [Value.cells])); intro wr26_1 hsr26_1; simp only [upd, Value.cells] at hsr26_1))
                refine hKp.out _ _ ?_
                clear hKp Kp
                (try dsimp only [Act.put])
                refine pl_take (v := ?_) rfl ?_ ?_
                rotate_left
                · (go_simp; first | done | with_reducible rfl | rfl | omega | assumption | (simp; omega))
                (try simp only [Act.put, aP, aZ, aS])
                refine pl_done ?_
                refine hK30.out _ _ ?_
                (try clear hK30 K30)
                refine wp_ret ?_
                ((try simp only [Exit.inBlock, Exit.then]); refine retC1T rfl rfl (by assumption) (by (repeat (first | exact Out.here _ | apply Out.there))) (by simp) rfl rfl ?_)
                exact ⟨rfl, MR.made (bs := bs1) Hys.out Hst1.out ((by assumption : Sat w0 _ _).pick (by (repeat (first | exact Pick.nil _ | exact Pick.tail _ | exact Out.here _ | apply Out.there | apply Pick.cons | apply Pick.drop))))⟩
        · have hne : seMap left ≠ [] := by intro e; apply hz; simpa [seMap] using e
          clear hz
          refine wk_seq (fun K11 hK11 => ?_)
          refine wk_reg ?_
          refine pl_eff rfl (fun Kp hKp => ?_)
          ((with_reducible apply st_next_more ktInt); assumption; rfl; (repeat (first | with_reducible exact Out.here _ | apply Out.there)); exact hne; intro k40 v40 w40 hm40 hml40 hs40)
          obtain ⟨rb40, s40, hrow, rfl⟩ := mem_seMap hm40; rw [seMap_del] at hs40; have hcl := Cl.se (w0 := w0) (L := L) (hsub.subset hrow); have hcn := cur_next (lim := lim) Hk.out hsub hrow; have hln := left_next hsub hrow hg; have hk64 := hin _ (List.mem_map.2 ⟨_, hsub.subset hrow, rfl⟩); have hkeep : ¬ s40.t ≤ lim → _ := fun h => hcn.1 (decide_eq_true (show lim < s40.t from by omega)); have hgo : s40.t ≤ lim → _ := fun h => hcn.2 (decide_eq_false (show ¬ lim < s40.t from by omega)); simp only at hk64 hkeep hgo hln hs40; clear hm40 hml40 hcn
          refine hKp.out _ _ ?_
          clear hKp Kp
          (try simp only [Act.put, aP, aZ, aS])
          refine pl_take (v := .bool true) rfl ?_ ?_
          · (go_simp; first | done | with_reducible rfl | rfl | omega | assumption | (simp; omega))
          (try simp only [Act.put, aP, aZ, aS])
          refine pl_done ?_
          refine hK11.out _ _ ?_
          (try clear hK11 K11)
          refine wk_seq (fun K12 hK12 => ?_)
          refine wp_cond_true rfl ?_
          refine wp_skip ?_
          refine hK12.out _ _ ?_
          (try clear hK12 K12)
          refine wp_block ?_
          refine wk_seq (fun K13 hK13 => ?_)
          refine wk_reg ?_
          refine pl_take (v := (.tuple #[.int .i64 k40, .pointer (some ⟨rb40, 0, none⟩)])) rfl ?_ ?_
          · ((with_reducible apply yl_entry); assumption; rfl; (repeat (first | with_reducible exact Out.here _ | apply Out.there)))
          (try simp only [Act.put, aP, aZ, aS])
          iterate 4 (refine pl_take (v := ?_) rfl ?_ ?_; rotate_left; (· (go_simp; first | done | with_reducible rfl | rfl | omega | assumption | (simp; omega))); (try simp only [Act.put, aP, aZ, aS]))
          refine pl_done ?_
          refine hK13.out _ _ ?_
          (try clear hK13 K13)
          refine wk_seq (fun K14 hK14 => ?_)
          refine rg_start rfl (by assumption) (fun wr11 hsr11 => ?_)
          refine rg_take (i := 0) (v := ?_) rfl (by kernel_rfl) (by kernel_rfl) (by kernel_rfl) (fun _ _ _ h => h) rfl (by assumption) ?_ ?_
          rotate_left
          · intro w hSw; (go_simp; first | done | with_reducible rfl | rfl | omega | assumption | (simp; omega))
          (try simp only [Act.put, aP, aZ, aS])
          refine rg_take (i := 1) (v := ?_) rfl (by kernel_rfl) (by kernel_rfl) (by kernel_rfl) (fun _ _ _ h => h) rfl (by assumption) ?_ ?_
          rotate_left
          · intro w hSw; (go_simp; first | done | with_reducible rfl | rfl | omega | assumption | (simp; omega))
          (try simp only [Act.put, aP, aZ, aS])
          refine rg_take (i := 2) (v := ?_) rfl (by kernel_rfl) (by kernel_rfl) (by kernel_rfl) (fun _ _ _ h => h) rfl (by assumption) ?_ ?_
          rotate_left
          · intro w hSw; (go_simp; first | done | with_reducible rfl | rfl | omega | assumption | (simp; omega))
          (try simp only [Act.put, aP, aZ, aS])
          refine rg_take (i := 3) (v := ?_) rfl (by kernel_rfl) (by kernel_rfl) (by kernel_rfl) (fun _ _ _ h => h) rfl (by assumption) ?_ ?_
          rotate_left
          · intro w hSw; ((with_reducible apply yl_load); assumption; rfl; (repeat (first | with_reducible assumption | ((with_reducible apply Cl.own); exact rfl) | ((with_reducible apply Cl.blkL); exact rfl) | with_reducible apply Cl.cons)); rfl)
          (try simp only [Act.put, aP, aZ, aS])
          refine rg_take (i := 4) (v := ?_) rfl (by kernel_rfl) (by kernel_rfl) (by kernel_rfl) (fun _ _ _ h => h) rfl (by assumption) ?_ ?_
          rotate_left
          · intro w hSw; (go_simp; first | done | with_reducible rfl | rfl | omega | assumption | (simp; omega))
          (try simp only [Act.put, aP, aZ, aS])
          refine rg_take (i := 5) (v := ?_) rfl (by kernel_rfl) (by kernel_rfl) (by kernel_rfl) (fun _ _ _ h => h) rfl (by assumption) ?_ ?_
          rotate_left
          · intro w hSw; (go_simp; first | done | with_reducible rfl | rfl | omega | assumption | (simp; omega))
          (try simp only [Act.put, aP, aZ, aS])
          refine rg_take (i := 6) (v := ?_) rfl (by kernel_rfl) (by kernel_rfl) (by kernel_rfl) (fun _ _ _ h => h) rfl (by assumption) ?_ ?_
          rotate_left
          · intro w hSw; (go_simp; first | done | with_reducible rfl | rfl | omega | assumption | (simp; omega))
          (try simp only [Act.put, aP, aZ, aS])
          refine rg_take (i := 7) (v := ?_) rfl (by kernel_rfl) (by kernel_rfl) (by kernel_rfl) (fun _ _ _ h => h) rfl (by assumption) ?_ ?_
          rotate_left
          · intro w hSw; (go_simp; first | done | with_reducible rfl | rfl | omega | assumption | (simp; omega))
          (try simp only [Act.put, aP, aZ, aS])
          refine rg_take (i := 8) (v := ?_) rfl (by kernel_rfl) (by kernel_rfl) (by kernel_rfl) (fun _ _ _ h => h) rfl (by assumption) ?_ ?_
          rotate_left
          · intro w hSw; ((with_reducible apply yl_load); assumption; rfl; (repeat (first | with_reducible assumption | ((with_reducible apply Cl.own); exact rfl) | ((with_reducible apply Cl.blkL); exact rfl) | with_reducible apply Cl.cons)); rfl)
          (try simp only [Act.put, aP, aZ, aS])
          refine rg_take (i := 9) (v := ?_) rfl (by kernel_rfl) (by kernel_rfl) (by kernel_rfl) (fun _ _ _ h => h) rfl (by assumption) ?_ ?_
          rotate_left
          · intro w hSw; (go_simp; first | done | with_reducible rfl | rfl | omega | assumption | (simp; omega))
          (try simp only [Act.put, aP, aZ, aS])
          by_cases hk : s40.t ≤ lim
          · refine rg_take (i := 10) (v := .bool true) rfl (by kernel_rfl) (by kernel_rfl) (by kernel_rfl) (fun _ _ _ h => h) rfl (by assumption) ?_ ?_
            · intro w hSw; (go_simp; first | done | with_reducible rfl | rfl | omega | assumption | (simp; omega))
            (try simp only [Act.put, aP, aZ, aS])
            refine rg_done (by kernel_rfl) ?_
            refine hK14.out _ _ ?_
            (try clear hK14 K14)
            refine wp_cond_true rfl ?_
            refine wk_reg ?_
            iterate 5 (refine pl_take (v := ?_) rfl ?_ ?_; rotate_left; (· (first | ((with_reducible apply yl_load); assumption; rfl; (repeat (first | with_reducible assumption | ((with_reducible apply Cl.own); exact rfl) | ((with_reducible apply Cl.blkL); exact rfl) | with_reducible apply Cl.cons)); rfl) | (go_simp; first | done | with_reducible rfl | rfl | omega | assumption | (simp; omega)))); (try simp only [Act.put, aP, aZ, aS]))
            refine pl_eff rfl (fun Kp hKp => ?_)
            ((with_reducible apply st_delete_mpi (xk := k40) ktInt); assumption; rfl; rfl; (repeat (first | with_reducible exact Out.here _ | apply Out.there)); exact hk64; (intro q hq; obtain ⟨y, hy, rfl⟩ := List.mem_map.1 hq; simpa using (List.mem_filter.1 hy).2); intro wr12_5 hsr12_5; rw [seMap_del] at hsr12_5)
            refine hKp.out _ _ ?_
            clear hKp Kp
            (try dsimp only [Act.put])
            refine pl_done ?_
            (try dsimp only [Exit.inBlock, Exit.then])
            refine (by assumption : ∀ a' w', Handed _ _ a' w' → _) _ _ ?_
            go_roundg (gk - 1)
            case measure => omega
            case rel => first | (have hq := hkeep hk; exact ⟨left.filter (fun y => decide (y.1 ≠ k40)), _, hln.1, hln.2.1, by rw [hq]; exact (by assumption : Sat w0 _ _).pick (by (repeat (first | exact Pick.nil _ | exact Pick.tail _ | exact Out.here _ | apply Out.there | apply Pick.cons | apply Pick.drop)))⟩) | (have hq := hgo hk; exact ⟨left.filter (fun y => decide (y.1 ≠ k40)), _, hln.1, hln.2.1, by rw [hq]; exact (by assumption : Sat w0 _ _).pick (by (repeat (first | exact Pick.nil _ | exact Pick.tail _ | exact Out.here _ | apply Out.there | apply Pick.cons | apply Pick.drop)))⟩)
          · refine rg_take (i := 10) (v := .bool false) rfl (by kernel_rfl) (by kernel_rfl) (by kernel_rfl) (fun _ _ _ h => h) rfl (by assumption) ?_ ?_
            · intro w hSw; (go_simp; first | done | with_reducible rfl | rfl | omega | assumption | (simp; omega))
            (try simp only [Act.put, aP, aZ, aS])
            refine rg_done (by kernel_rfl) ?_
            refine hK14.out _ _ ?_
            (try clear hK14 K14)
            refine wp_cond_false rfl ?_
            refine wp_skip ?_
            (try dsimp only [Exit.inBlock, Exit.then])
            refine (by assumption : ∀ a' w', Handed _ _ a' w' → _) _ _ ?_
            go_roundg (gk - 1)
            case measure => omega
            case rel => first | (have hq := hkeep hk; exact ⟨left.filter (fun y => decide (y.1 ≠ k40)), _, hln.1, hln.2.1, by rw [hq]; exact (by assumption : Sat w0 _ _).pick (by (repeat (first | exact Pick.nil _ | exact Pick.tail _ | exact Out.here _ | apply Out.there | apply Pick.cons | apply Pick.drop)))⟩) | (have hq := hgo hk; exact ⟨left.filter (fun y => decide (y.1 ≠ k40)), _, hln.1, hln.2.1, by rw [hq]; exact (by assumption : Sat w0 _ _).pick (by (repeat (first | exact Pick.nil _ | exact Pick.tail _ | exact Out.here _ | apply Out.there | apply Pick.cons | apply Pick.drop)))⟩)
end Go.Proofs.Ytdlimjcidblneaa
