/-
  Two machines that applied the same: MachineAlike, the walk.
-/
import Derived.Test.YtdlimjcidblneaaMs3
import Derived.Deep.CutRange
namespace Go.Proofs.Ytdlimjcidblneaa
open Go Go.RowKit Sl Go.Shelf Go.Deep
set_option maxHeartbeats 20000000
set_option maxRecDepth 8000


structure OpD where
  ix : Int
  b : List UInt8
  fr : Int
  mo : Int
def OpV : IsV OpD := fun R cs x => ∃ A c, cs = [.int .i64 x.ix, .slice A x.b.length c, .int .i64 x.fr, .int .i64 x.mo] ∧ R A x.b.length 1 (B8 x.b)
theorem OpV.mono : IsV.Mono OpV := fun _ _ h _ _ ⟨A, c, e, hr⟩ => ⟨A, c, e, h _ _ _ _ hr⟩

/-- Two machines that stand alike behind i commands. -/
structure Alk (i : Nat) (M N : Mc) : Prop where
  sp : M.sp = 9
  eqv : M.Eqv N
  gm : M.Good
  gn : N.Good
  near : M.st + M.l.length ≤ M.ap
  len : M.l.length ≤ i

theorem Alk.start : Alk 0 (Mc.new 9) (Mc.new 9) := ⟨rfl, .refl _, Mc.Good.new (by omega), Mc.Good.new (by omega), by simp [Mc.new], by simp [Mc.new]⟩

theorem apply_sp (M : Mc) (ix : Int) (b : List UInt8) : (M.apply ix b).2.sp = M.sp := by
  unfold Mc.apply
  split
  · rfl
  · split
    · rfl
    · unfold Mc.does
      split
      · split <;> rfl
      · split
        · simp only [Mc.put]
          split
          · rfl
          · split
            · rfl
            · split <;> rfl
        · split <;> rfl

theorem Alk.step {i : Nat} {M N : Mc} (h : Alk i M N) (ix : Int) (b : List UInt8) : (N.apply ix b).1 = (M.apply ix b).1 ∧ Alk (i + 1) (M.apply ix b).2 (N.apply ix b).2 := by
  obtain ⟨h1, h2⟩ := apply_eqv h.eqv h.gm.nod ix b
  exact ⟨h1.symm, by rw [apply_sp]; exact h.sp, h2, apply_good h.gm, apply_good h.gn, apply_near h.near, by have := (apply_ok (ix := ix) (b := b) h.gm.ok).2; have := h.len; omega⟩

theorem Alk.back {i : Nat} {M N : Mc} (h : Alk i M N) : Mc.restore 9 M.save = (some { M with ss := seSort M.ss }, 0) ∧ Alk i M { M with ss := seSort M.ss } := by
  have hM : M.sp = 9 := h.sp
  rw [← hM]
  have h1 := h.gm.ok.ap
  have hr := restore_save h.gm (by have := h.near; omega)
  have hp := seSort_perm M.ss
  refine ⟨hr, h.sp, ⟨rfl, rfl, rfl, rfl, hp.symm⟩, h.gm, ⟨⟨h.gm.ok.sp, h.gm.ok.ap, h.gm.ok.st, h.gm.ok.len, fun x hx => h.gm.ok.ids x (hp.subset hx)⟩, h.gm.big, fun x hx => h.gm.se x (hp.subset hx), (hp.map (·.1)).nodup_iff.2 h.gm.nod, by simp only; rw [hp.length_eq]; exact h.gm.few⟩, h.near, h.len⟩


theorem machineAlike_walk {w0 w : World} {L : List HP} {A : Option Addr} {c : Nat} (xs : List OpD) (kk : Int) (hl : xs.length ≤ 1048576) (hb : ∀ x ∈ xs, x.b.length ≤ 1048576) (hs : Sat w0 w L) (hE : SlV OpV 4 (Rd w0 L) [.slice A xs.length c] xs) :
    Calls Try.prog 7 #[.slice A xs.length c, .int .i64 kk] w (RetB w0 L true) := by
  obtain ⟨A', ca', vs, he1, hRv, hvl, hel⟩ := hE
  simp only [List.cons.injEq, Value.slice.injEq, and_true, true_and] at he1
  obtain ⟨rfl, rfl⟩ := he1
  go_enter Try.func7, Try.ntmps7
  refine wk_seq (fun K0 hK0 => ?_)
  refine wk_reg ?_
  refine pl_take (v := .bool false) rfl ?_ ?_
  · (go_simp; first | done | with_reducible rfl | rfl | omega | assumption | (simp; omega))
  (try simp only [Act.put, aP, aZ, aS])
  refine pl_done ?_
  refine hK0.out _ _ ?_
  (try clear hK0 K0)
  refine wk_seq (fun K1 hK1 => ?_)
  refine wk_reg ?_
  refine pl_eff rfl (fun Kp hKp => ?_)
  go_simp
  (refine (newM_spec 9 (by omega) (by assumption)).mono ?_; rintro e17 w17 ⟨p17, rfl, hs17⟩)
  (try go_wp2_with fail)
  refine hKp.out _ _ ?_
  clear hKp Kp
  (try simp only [Act.put, aP, aZ, aS])
  iterate 5 (refine pl_take (v := ?_) rfl ?_ ?_; rotate_left; (· (go_simp; first | done | with_reducible rfl | rfl | omega | assumption | (simp; omega))); (try simp only [Act.put, aP, aZ, aS]))
  refine pl_done ?_
  refine hK1.out _ _ ?_
  (try clear hK1 K1)
  refine wk_seq (fun K2 hK2 => ?_)
  refine wk_reg ?_
  refine pl_eff rfl (fun Kp hKp => ?_)
  go_simp
  (refine (newM_spec 9 (by omega) (by assumption)).mono ?_; rintro e21 w21 ⟨p21, rfl, hs21⟩)
  (try go_wp2_with fail)
  refine hKp.out _ _ ?_
  clear hKp Kp
  (try simp only [Act.put, aP, aZ, aS])
  iterate 5 (refine pl_take (v := ?_) rfl ?_ ?_; rotate_left; (· (go_simp; first | done | with_reducible rfl | rfl | omega | assumption | (simp; omega))); (try simp only [Act.put, aP, aZ, aS]))
  refine pl_done ?_
  refine hK2.out _ _ ?_
  (try clear hK2 K2)
  refine wk_seq (fun K3 hK3 => ?_)
  refine wk_seq (fun K4 hK4 => ?_)
  refine wk_reg ?_
  refine pl_take (v := ?_) rfl ?_ ?_
  rotate_left
  · (go_simp; first | done | with_reducible rfl | rfl | omega | assumption | (simp; omega))
  (try simp only [Act.put, aP, aZ, aS])
  refine pl_eff rfl (fun Kp hKp => ?_)
  go_simp
  ((refine (numL_spec _ (by assumption)).mono ?_); rintro e25 w25 ⟨rfl, hs25⟩)
  (try go_wp2_with fail)
  refine hKp.out _ _ ?_
  clear hKp Kp
  (try simp only [Act.put, aP, aZ, aS])
  refine pl_take (v := ?_) rfl ?_ ?_
  rotate_left
  · (go_simp; first | done | with_reducible rfl | rfl | omega | assumption | (simp; omega))
  (try simp only [Act.put, aP, aZ, aS])
  refine pl_eff rfl (fun Kp hKp => ?_)
  go_simp
  ((refine (numL_spec _ (by assumption)).mono ?_); rintro e27 w27 ⟨rfl, hs27⟩)
  (try go_wp2_with fail)
  refine hKp.out _ _ ?_
  clear hKp Kp
  (try simp only [Act.put, aP, aZ, aS])
  refine pl_take (v := ?_) rfl ?_ ?_
  rotate_left
  · (go_simp; first | done | with_reducible rfl | rfl | omega | assumption | (simp; omega))
  (try simp only [Act.put, aP, aZ, aS])
  iterate 2 (refine pl_take (v := .bool false) rfl ?_ ?_; (· (go_simp; first | done | with_reducible rfl | rfl | omega | assumption | (simp; omega))); (try simp only [Act.put, aP, aZ, aS]))
  refine pl_take (v := ?_) (by kernel_rfl) ?_ ?_
  rotate_left
  · (go_simp; first | done | with_reducible rfl | rfl | omega | assumption | (simp; omega))
  (try simp only [Act.put, aP, aZ, aS])
  refine pl_take (v := .bool false) (by kernel_rfl) ?_ ?_
  · (go_simp; first | done | with_reducible rfl | rfl | omega | assumption | (simp; omega))
  (try simp only [Act.put, aP, aZ, aS])
  iterate 2 (refine pl_take (v := .bool false) rfl ?_ ?_; (· (go_simp; first | done | with_reducible rfl | rfl | omega | assumption | (simp; omega))); (try simp only [Act.put, aP, aZ, aS]))
  refine pl_take (v := ?_) (by kernel_rfl) ?_ ?_
  rotate_left
  · (go_simp; first | done | with_reducible rfl | rfl | omega | assumption | (simp; omega))
  (try simp only [Act.put, aP, aZ, aS])
  refine pl_take (v := .bool false) (by kernel_rfl) ?_ ?_
  · (go_simp; first | done | with_reducible rfl | rfl | omega | assumption | (simp; omega))
  (try simp only [Act.put, aP, aZ, aS])
  iterate 2 (refine pl_take (v := .bool false) rfl ?_ ?_; (· (go_simp; first | done | with_reducible rfl | rfl | omega | assumption | (simp; omega))); (try simp only [Act.put, aP, aZ, aS]))
  refine pl_eff (by kernel_rfl) (fun Kp hKp => ?_)
  go_simp
  (refine (knows08_spec (by assumption)).mono ?_; rintro e39 w39 ⟨rfl, hs39⟩)
  (try go_wp2_with fail)
  refine hKp.out _ _ ?_
  clear hKp Kp
  (try simp only [Act.put, aP, aZ, aS])
  refine pl_take (v := .bool false) (by kernel_rfl) ?_ ?_
  · (go_simp; first | done | with_reducible rfl | rfl | omega | assumption | (simp; omega))
  (try simp only [Act.put, aP, aZ, aS])
  refine pl_take (v := .bool false) rfl ?_ ?_
  · (go_simp; first | done | with_reducible rfl | rfl | omega | assumption | (simp; omega))
  (try simp only [Act.put, aP, aZ, aS])
  refine pl_done ?_
  refine hK4.out _ _ ?_
  (try clear hK4 K4)
  refine wp_cond_false rfl ?_
  refine wp_skip ?_
  refine hK3.out _ _ ?_
  (try clear hK3 K3)
  refine wk_seq (fun K6 hK6 => ?_)
  refine wk_seq (fun K7 hK7 => ?_)
  refine wk_reg ?_
  refine pl_take (v := ?_) rfl ?_ ?_
  rotate_left
  · (go_simp; first | done | with_reducible rfl | rfl | omega | assumption | (simp; omega))
  (try simp only [Act.put, aP, aZ, aS])
  refine pl_done ?_
  refine hK7.out _ _ ?_
  (try clear hK7 K7)
  refine wp_block ?_
  -- at a loop
  go_loopg [7, 9] (xs.length) (fun g s7 s9 wr => ∃ (i q : Nat) (M N : Mc), s7 = .pointer (some ⟨q, 0, none⟩) ∧ s9 = .int .i64 i ∧ xs.length - i ≤ g ∧ i ≤ xs.length ∧ Hid (Alk i M N) ∧ Sat w0 wr (MR p17 M :: MR q N :: L))
  case atStart => exact ⟨0, p21, _, _, rfl, rfl, by omega, Nat.zero_le _, Alk.start, (by assumption : Sat w0 w39 _).pick (by (repeat (first | exact Pick.nil _ | exact Pick.tail _ | exact Out.here _ | apply Out.there | apply Pick.cons | apply Pick.drop)))⟩
  case round =>
    obtain ⟨i, q, M, N, rfl, rfl, hg, hi, Hal, hsC⟩ := hrel
    by_cases hlt : i < xs.length
    · obtain ⟨x, hx⟩ : ∃ x, xs[i]? = some x := ⟨xs[i], List.getElem?_eq_getElem hlt⟩
      obtain ⟨B, cb, ex, hrb⟩ := hel i x hx
      obtain ⟨ga, oa, rfl⟩ := hRv.some_of hs (by omega)
      have hrow := hRv.row_at i hlt
      rw [ex] at hrow
      have hbl := hb x (List.mem_of_getElem? hx)
      obtain ⟨ix, b, fr, mo⟩ := x
      simp only at hrow hrb hbl
      have hc0 : Cl w0 L ⟨ga, oa + i * 4, none⟩ (.int .i64 ix) := by simpa using hrow.cell_at (j := 0) rfl
      have hc1 : Cl w0 L ⟨ga, oa + i * 4 + 1, none⟩ (.slice B b.length cb) := hrow.cell_at (j := 1) rfl
      have i0 : (0 : Int) ≤ (i : Int) := by omega
      have i1 : (i : Int) < (xs.length : Int) := by omega
      have hwk : IntKind.i64.wrap ((i : Int) + 1) = (i : Int) + 1 := IntWalk.i64_in _ (by omega)
      obtain ⟨hT, hal2⟩ := Hal.out.step ix b
      have hMl : M.l.length ≤ 1099511627776 := by have := Hal.out.len; omega
      have hNl : N.l.length ≤ 1099511627776 := by have := Hal.out.len; rw [← Hal.out.eqv.l]; omega
      have hA := fun (w : World) (L' : List HP) (A : Option Addr) (c : Nat) (hs : Sat w0 w (MR p17 M :: L')) (h : Rd w0 L' A b.length 1 (B8 b)) => apply_spec (c := c) ix b Hal.out.gm.ok hMl (by omega) hs h
      have hB := fun (w : World) (L' : List HP) (A : Option Addr) (c : Nat) (hs : Sat w0 w (MR q N :: L')) (h : Rd w0 L' A b.length 1 (B8 b)) => apply_spec (c := c) ix b Hal.out.gn.ok hNl (by omega) hs h
      obtain ⟨⟨T, M'⟩, hM'⟩ : ∃ z, M.apply ix b = z := ⟨_, rfl⟩
      obtain ⟨⟨T', N'⟩, hN'⟩ : ∃ z, N.apply ix b = z := ⟨_, rfl⟩
      rw [hM', hN'] at hT hal2
      rw [hM'] at hA
      rw [hN'] at hB
      simp only at hT hal2
      subst hT
      obtain ⟨te, ts, tn, terr⟩ := T'
      unfold RetTold at hA hB
      simp only at hA hB
      have Hal2 := Hid.mk' hal2
      have hbk := hal2.back
      have hsv := fun (w : World) (L' : List HP) (hs : Sat w0 w (MR p17 M' :: L')) => saveMR_spec hal2.gm (by have := hal2.len; omega) hs
      have hsl := save_len hal2.gm (by have := hal2.len; omega)
      have hrs := fun (w : World) (L' : List HP) (A : Option Addr) (c : Nat) (hs : Sat w0 w L') (h : Rd w0 L' A M'.save.length 1 (B8 M'.save)) => restoreMc_spec (c := c) 9 M'.save hsl hs h
      rw [hbk.1] at hrs
      have Hbk := Hid.mk' hbk.2
      obtain ⟨M2, hM2⟩ : ∃ z, ({ M' with ss := seSort M'.ss } : Mc) = z := ⟨_, rfl⟩
      rw [hM2] at hrs Hbk
      obtain ⟨sv, hsv2⟩ : ∃ z, M'.save = z := ⟨_, rfl⟩
      rw [hsv2] at hsv hrs
      clear hM' hN' hal2 hx hrow ex hbk hsl hM2 hsv2
      refine wk_seq (fun K8 hK8 => ?_)
      refine wk_seq (fun K9 hK9 => ?_)
      refine wk_reg ?_
      iterate 3 (refine pl_take (v := ?_) rfl ?_ ?_; rotate_left; (· (go_simp; first | done | with_reducible rfl | rfl | omega | assumption | (simp; omega))); (try simp only [Act.put, aP, aZ, aS]))
      refine pl_take (v := .bool true) rfl ?_ ?_
      · (go_simp; first | done | with_reducible rfl | rfl | omega | assumption | (simp; omega))
      (try simp only [Act.put, aP, aZ, aS])
      refine pl_done ?_
      refine hK9.out _ _ ?_
      (try clear hK9 K9)
      refine wp_cond_true rfl ?_
      refine wp_skip ?_
      refine hK8.out _ _ ?_
      (try clear hK8 K8)
      refine wk_seq (fun K10 hK10 => ?_)
      refine wp_block ?_
      refine wk_seq (fun K11 hK11 => ?_)
      -- at a cut
      go_cut [10, 11] from 48 to 64 (fun s10 s11 w => ∃ b10, s10 = .pointer (some ⟨b10, 0, none⟩) ∧ s11 = .int .i64 terr ∧ Sat w0 w (MR p17 M' :: MR q N :: blk b10 (.cells #[.int .i64 te, .int .i64 ts, .int .i64 tn] 30 (0, 0)) :: L))
      case first =>
        as_aux_lemma =>
        refine rg_start2 (L := MR q N :: L) rfl (by assumption) (by (repeat (first | exact Pick.nil _ | with_reducible exact Pick.tail _ | with_reducible exact Out.here _ | apply Out.there | apply Pick.cons | apply Pick.drop))) (fun wr8 hsr8 hsq8 => ?_)
        have hsz8 := hsr8
        refine rg_take (i := 0) (v := ?_) rfl (by kernel_rfl) (by kernel_rfl) (by kernel_rfl) (fun _ _ _ h => h) rfl (by assumption) ?_ ?_
        rotate_left
        · intro w hSw; (go_simp; first | done | with_reducible rfl | rfl | omega | assumption | (simp; omega))
        (try simp only [Act.put, aP, aZ, aS])
        refine rg_take (i := 1) (v := ?_) rfl (by kernel_rfl) (by kernel_rfl) (by kernel_rfl) (fun _ _ _ h => h) rfl (by assumption) ?_ ?_
        rotate_left
        · intro w hSw; (go_simp; first | done | with_reducible rfl | rfl | omega | assumption | (simp; omega))
        (try simp only [Act.put, aP, aZ, aS])
        refine rg_take (i := 2) (v := ?_) rfl (by kernel_rfl) (by kernel_rfl) (by kernel_rfl) (fun _ _ _ h => h) rfl (by assumption) ?_ ?_
        rotate_left
        · intro w hSw; (go_simp; first | done | with_reducible rfl | rfl | omega | assumption | (simp; omega))
        (try simp only [Act.put, aP, aZ, aS])
        refine rg_take (i := 3) (v := ?_) rfl (by kernel_rfl) (by kernel_rfl) (by kernel_rfl) (fun _ _ _ h => h) rfl (by assumption) ?_ ?_
        rotate_left
        · intro w hSw; (go_simp; first | done | with_reducible rfl | rfl | omega | assumption | (simp; omega))
        (try simp only [Act.put, aP, aZ, aS])
        refine rg_take (i := 4) (v := ?_) rfl (by kernel_rfl) (by kernel_rfl) (by kernel_rfl) (fun _ _ _ h => h) rfl (by assumption) ?_ ?_
        rotate_left
        · intro w hSw; (go_simp; first | done | with_reducible rfl | rfl | omega | assumption | (simp; omega))
        (try simp only [Act.put, aP, aZ, aS])
        refine rg_take (i := 5) (v := ?_) rfl (by kernel_rfl) (by kernel_rfl) (by kernel_rfl) (fun _ _ _ h => h) rfl (by assumption) ?_ ?_
        rotate_left
        · intro w hSw; ((with_reducible apply yl_load); assumption; rfl; (repeat (first | with_reducible assumption | ((with_reducible apply Cl.own); exact rfl) | ((with_reducible apply Cl.blkL); exact rfl) | with_reducible apply Cl.cons)); rfl)
        (try simp only [Act.put, aP, aZ, aS])
        refine rg_take (i := 7) (v := ?_) rfl (by kernel_rfl) (by kernel_rfl) (by kernel_rfl) (fun _ _ _ h => h) rfl (by assumption) ?_ ?_
        rotate_left
        · intro w hSw; (go_simp; first | done | with_reducible rfl | rfl | omega | assumption | (simp; omega))
        (try simp only [Act.put, aP, aZ, aS])
        refine rg_take (i := 8) (v := ?_) rfl (by kernel_rfl) (by kernel_rfl) (by kernel_rfl) (fun _ _ _ h => h) rfl (by assumption) ?_ ?_
        rotate_left
        · intro w hSw; (go_simp; first | done | with_reducible rfl | rfl | omega | assumption | (simp; omega))
        (try simp only [Act.put, aP, aZ, aS])
        refine rg_take (i := 9) (v := ?_) rfl (by kernel_rfl) (by kernel_rfl) (by kernel_rfl) (fun _ _ _ h => h) rfl (by assumption) ?_ ?_
        rotate_left
        · intro w hSw; (go_simp; first | done | with_reducible rfl | rfl | omega | assumption | (simp; omega))
        (try simp only [Act.put, aP, aZ, aS])
        refine rg_take (i := 10) (v := ?_) rfl (by kernel_rfl) (by kernel_rfl) (by kernel_rfl) (fun _ _ _ h => h) rfl (by assumption) ?_ ?_
        rotate_left
        · intro w hSw; (go_simp; first | done | with_reducible rfl | rfl | omega | assumption | (simp; omega))
        (try simp only [Act.put, aP, aZ, aS])
        refine rg_take (i := 11) (v := ?_) rfl (by kernel_rfl) (by kernel_rfl) (by kernel_rfl) (fun _ _ _ h => h) rfl (by assumption) ?_ ?_
        rotate_left
        · intro w hSw; ((with_reducible apply yl_load); assumption; rfl; (repeat (first | with_reducible assumption | ((with_reducible apply Cl.own); exact rfl) | ((with_reducible apply Cl.blkL); exact rfl) | with_reducible apply Cl.cons)); rfl)
        (try simp only [Act.put, aP, aZ, aS])
        refine rg_two (i := 6) (j := 17) (by kernel_rfl) rfl rfl rfl rfl (fun Kp hKp => ?_) (fun Kp hKp => ?_)
        · ((with_reducible apply st_buildSlice); assumption; rfl; (go_simp; rfl); (simp [Value.cells]); omega; intro b55 w55 hs55)
          refine rg_back (hK := hKp) ?_ (fun hsk55 => ?_)
          · (first | assumption | (apply Sat.drew; assumption) | (apply Sat.pick; assumption; (repeat (first | exact Pick.nil _ | with_reducible exact Pick.tail _ | with_reducible exact Out.here _ | apply Out.there | apply Pick.cons | apply Pick.drop))))
          clear hKp Kp
          have hsz55 := hs55
          (try simp only [Act.put, aP, aZ, aS])
          refine rg_two (i := 12) (j := 17) (by kernel_rfl) rfl rfl rfl rfl (fun Kp hKp => ?_) (fun Kp hKp => ?_)
          · ((with_reducible apply st_append); go_must (assumption; rfl; rfl; (repeat (first | with_reducible exact Out.here _ | apply Out.there)); (repeat (first | with_reducible assumption | with_reducible exact Rd.own | with_reducible exact Rd.nil | with_reducible apply Rd.cons)); (first | exact B8_one _ | exact I8_one _ | (simp [Value.oneCell'])); (first | omega | (simp only [maxLen]; omega)); omega; intro A61 c61 w61 hs61 hc61; (try ((refine hs61.own_elim ?_ ?_); omega; rintro g61 rfl)); try simp only [Nat.zero_add, List.nil_append] at hs61 hc61))
            refine rg_back (hK := hKp) ?_ (fun hsk61 => ?_)
            · (first | assumption | (apply Sat.drew; assumption) | (apply Sat.pick; assumption; (repeat (first | exact Pick.nil _ | with_reducible exact Pick.tail _ | with_reducible exact Out.here _ | apply Out.there | apply Pick.cons | apply Pick.drop))))
            clear hKp Kp
            have hsz61 := hs61
            (try simp only [Act.put, aP, aZ, aS])
            refine rg_two (i := 13) (j := 17) (by kernel_rfl) rfl rfl rfl rfl (fun Kp hKp => ?_) (fun Kp hKp => ?_)
            · go_simp
              (refine (hA _ _ _ _ ((by assumption : Sat w0 _ _).pick (.cons (by (repeat (first | with_reducible exact Out.here _ | apply Out.there))) (.tail _))) (by (repeat (first | with_reducible assumption | with_reducible exact Rd.own | with_reducible exact Rd.nil | with_reducible apply Rd.cons)))).mono ?_; rintro e62 w62 ⟨rfl, hs62⟩)
              (try go_wp2_with fail)
              refine rg_back (hK := hKp) ?_ (fun hsk62 => ?_)
              · (first | assumption | (apply Sat.drew; assumption) | (apply Sat.pick; assumption; (repeat (first | exact Pick.nil _ | with_reducible exact Pick.tail _ | with_reducible exact Out.here _ | apply Out.there | apply Pick.cons | apply Pick.drop))))
              clear hKp Kp
              have hsz62 := hs62
              (try simp only [Act.put, aP, aZ, aS])
              refine rg_take (i := 14) (v := ?_) rfl (by kernel_rfl) (by kernel_rfl) (by kernel_rfl) (fun _ _ _ h => h) rfl (by assumption) ?_ ?_
              rotate_left
              · intro w hSw; (go_simp; first | done | with_reducible rfl | rfl | omega | assumption | (simp; omega))
              (try simp only [Act.put, aP, aZ, aS])
              refine rg_take (i := 15) (v := ?_) rfl (by kernel_rfl) (by kernel_rfl) (by kernel_rfl) (fun _ _ _ h => h) rfl (by assumption) ?_ ?_
              rotate_left
              · intro w hSw; (go_simp; first | done | with_reducible rfl | rfl | omega | assumption | (simp; omega))
              (try simp only [Act.put, aP, aZ, aS])
              refine rg_take (i := 16) (v := ?_) rfl (by kernel_rfl) (by kernel_rfl) (by kernel_rfl) (fun _ _ _ h => h) rfl (by assumption) ?_ ?_
              rotate_left
              · intro w hSw; (go_simp; first | done | with_reducible rfl | rfl | omega | assumption | (simp; omega))
              (try simp only [Act.put, aP, aZ, aS])
              refine rg_one (i := 17) (by kernel_rfl) rfl rfl (fun Kp hKp => ?_)
              ((with_reducible apply st_alloc); assumption; intro b10 w10 hs10; simp only [Value.cells] at hs10)
              refine rg_back (hK := hKp) ?_ (fun hsk10 => ?_)
              · (first | assumption | (apply Sat.drew; assumption) | (apply Sat.pick; assumption; (repeat (first | exact Pick.nil _ | with_reducible exact Pick.tail _ | with_reducible exact Out.here _ | apply Out.there | apply Pick.cons | apply Pick.drop))))
              clear hKp Kp
              have hsz10 := hs10
              (try simp only [Act.put, aP, aZ, aS])
              refine rg_one (i := 18) (by kernel_rfl) rfl rfl (fun Kp hKp => ?_)
              (first | ((with_reducible apply st_storeAll); assumption; rfl; (go_simp; rfl); (repeat (first | with_reducible exact Out.here _ | apply Out.there)); rfl; (focus (first | (simp [Value.oneCell']; done) | (simp [Value.cells, Value.oneCell']; done))); rfl; intro wr8_18 hsr8_18; simp only [Value.cells] at hsr8_18) | ((with_reducible apply st_store); assumption; rfl; (go_simp; rfl); (repeat (first | with_reducible exact Out.here _ | apply Out.there)); rfl; (first | (focus (simp [Value.oneCell']; done)) | (simp [Value.cells, Value.oneCell'])); (first | (focus (simp; done)) | (simp [Value.cells])); intro wr8_18 hsr8_18; simp only [upd, Value.cells] at hsr8_18))
              refine rg_back (hK := hKp) ?_ (fun hskr8_18 => ?_)
              · (first | assumption | (apply Sat.drew; assumption) | (apply Sat.pick; assumption; (repeat (first | exact Pick.nil _ | with_reducible exact Pick.tail _ | with_reducible exact Out.here _ | apply Out.there | apply Pick.cons | apply Pick.drop))))
              clear hKp Kp
              have hszr8_18 := hsr8_18
              (try dsimp only [Act.put])
              refine rg_take (i := 19) (v := ?_) rfl (by kernel_rfl) (by kernel_rfl) (by kernel_rfl) (fun _ _ _ h => h) rfl (by assumption) ?_ ?_
              rotate_left
              · intro w hSw; (go_simp; first | done | with_reducible rfl | rfl | omega | assumption | (simp; omega))
              (try simp only [Act.put, aP, aZ, aS])
              refine rg_done (by kernel_rfl) ?_
              refine (by assumption : ∀ a' w', Met _ a' w' → _) _ _ ?_
              go_meet
              case rel => exact ⟨_, rfl, rfl, (by assumption : Sat w0 _ _).pick (by (repeat (first | exact Pick.nil _ | exact Pick.tail _ | exact Out.here _ | apply Out.there | apply Pick.cons | apply Pick.drop)))⟩
            · ((with_reducible apply st_alloc); assumption; intro b10 w10 hs10; simp only [Value.cells] at hs10)
              refine rg_back (hK := hKp) ?_ (fun hsk10 => ?_)
              · (first | assumption | (apply Sat.drew; assumption) | (apply Sat.pick; assumption; (repeat (first | exact Pick.nil _ | with_reducible exact Pick.tail _ | with_reducible exact Out.here _ | apply Out.there | apply Pick.cons | apply Pick.drop))))
              clear hKp Kp
              have hsz10 := hs10
              (try simp only [Act.put, aP, aZ, aS])
              refine rg_one (i := 13) (by kernel_rfl) rfl rfl (fun Kp hKp => ?_)
              go_simp
              (refine (hA _ _ _ _ ((by assumption : Sat w0 _ _).pick (.cons (by (repeat (first | with_reducible exact Out.here _ | apply Out.there))) (.tail _))) (by (repeat (first | with_reducible assumption | with_reducible exact Rd.own | with_reducible exact Rd.nil | with_reducible apply Rd.cons)))).mono ?_; rintro e62 w62 ⟨rfl, hs62⟩)
              (try go_wp2_with fail)
              refine rg_back (hK := hKp) ?_ (fun hsk62 => ?_)
              · (first | assumption | (apply Sat.drew; assumption) | (apply Sat.pick; assumption; (repeat (first | exact Pick.nil _ | with_reducible exact Pick.tail _ | with_reducible exact Out.here _ | apply Out.there | apply Pick.cons | apply Pick.drop))))
              clear hKp Kp
              have hsz62 := hs62
              (try simp only [Act.put, aP, aZ, aS])
              refine rg_take (i := 14) (v := ?_) rfl (by kernel_rfl) (by kernel_rfl) (by kernel_rfl) (fun _ _ _ h => h) rfl (by assumption) ?_ ?_
              rotate_left
              · intro w hSw; (go_simp; first | done | with_reducible rfl | rfl | omega | assumption | (simp; omega))
              (try simp only [Act.put, aP, aZ, aS])
              refine rg_take (i := 15) (v := ?_) rfl (by kernel_rfl) (by kernel_rfl) (by kernel_rfl) (fun _ _ _ h => h) rfl (by assumption) ?_ ?_
              rotate_left
              · intro w hSw; (go_simp; first | done | with_reducible rfl | rfl | omega | assumption | (simp; omega))
              (try simp only [Act.put, aP, aZ, aS])
              refine rg_take (i := 16) (v := ?_) rfl (by kernel_rfl) (by kernel_rfl) (by kernel_rfl) (fun _ _ _ h => h) rfl (by assumption) ?_ ?_
              rotate_left
              · intro w hSw; (go_simp; first | done | with_reducible rfl | rfl | omega | assumption | (simp; omega))
              (try simp only [Act.put, aP, aZ, aS])
              refine rg_one (i := 18) (by kernel_rfl) rfl rfl (fun Kp hKp => ?_)
              (first | ((with_reducible apply st_storeAll); assumption; rfl; (go_simp; rfl); (repeat (first | with_reducible exact Out.here _ | apply Out.there)); rfl; (focus (first | (simp [Value.oneCell']; done) | (simp [Value.cells, Value.oneCell']; done))); rfl; intro wr8_18 hsr8_18; simp only [Value.cells] at hsr8_18) | ((with_reducible apply st_store); assumption; rfl; (go_simp; rfl); (repeat (first | with_reducible exact Out.here _ | apply Out.there)); rfl; (first | (focus (simp [Value.oneCell']; done)) | (simp [Value.cells, Value.oneCell'])); (first | (focus (simp; done)) | (simp [Value.cells])); intro wr8_18 hsr8_18; simp only [upd, Value.cells] at hsr8_18))
              refine rg_back (hK := hKp) ?_ (fun hskr8_18 => ?_)
              · (first | assumption | (apply Sat.drew; assumption) | (apply Sat.pick; assumption; (repeat (first | exact Pick.nil _ | with_reducible exact Pick.tail _ | with_reducible exact Out.here _ | apply Out.there | apply Pick.cons | apply Pick.drop))))
              clear hKp Kp
              have hszr8_18 := hsr8_18
              (try dsimp only [Act.put])
              refine rg_take (i := 19) (v := ?_) rfl (by kernel_rfl) (by kernel_rfl) (by kernel_rfl) (fun _ _ _ h => h) rfl (by assumption) ?_ ?_
              rotate_left
              · intro w hSw; (go_simp; first | done | with_reducible rfl | rfl | omega | assumption | (simp; omega))
              (try simp only [Act.put, aP, aZ, aS])
              refine rg_done (by kernel_rfl) ?_
              refine (by assumption : ∀ a' w', Met _ a' w' → _) _ _ ?_
              go_meet
              case rel => exact ⟨_, rfl, rfl, (by assumption : Sat w0 _ _).pick (by (repeat (first | exact Pick.nil _ | exact Pick.tail _ | exact Out.here _ | apply Out.there | apply Pick.cons | apply Pick.drop)))⟩
          · ((with_reducible apply st_alloc); assumption; intro b10 w10 hs10; simp only [Value.cells] at hs10)
            refine rg_back (hK := hKp) ?_ (fun hsk10 => ?_)
            · (first | assumption | (apply Sat.drew; assumption) | (apply Sat.pick; assumption; (repeat (first | exact Pick.nil _ | with_reducible exact Pick.tail _ | with_reducible exact Out.here _ | apply Out.there | apply Pick.cons | apply Pick.drop))))
            clear hKp Kp
            have hsz10 := hs10
            (try simp only [Act.put, aP, aZ, aS])
            refine rg_one (i := 12) (by kernel_rfl) rfl rfl (fun Kp hKp => ?_)
            ((with_reducible apply st_append); go_must (assumption; rfl; rfl; (repeat (first | with_reducible exact Out.here _ | apply Out.there)); (repeat (first | with_reducible assumption | with_reducible exact Rd.own | with_reducible exact Rd.nil | with_reducible apply Rd.cons)); (first | exact B8_one _ | exact I8_one _ | (simp [Value.oneCell'])); (first | omega | (simp only [maxLen]; omega)); omega; intro A61 c61 w61 hs61 hc61; (try ((refine hs61.own_elim ?_ ?_); omega; rintro g61 rfl)); try simp only [Nat.zero_add, List.nil_append] at hs61 hc61))
            refine rg_back (hK := hKp) ?_ (fun hsk61 => ?_)
            · (first | assumption | (apply Sat.drew; assumption) | (apply Sat.pick; assumption; (repeat (first | exact Pick.nil _ | with_reducible exact Pick.tail _ | with_reducible exact Out.here _ | apply Out.there | apply Pick.cons | apply Pick.drop))))
            clear hKp Kp
            have hsz61 := hs61
            (try simp only [Act.put, aP, aZ, aS])
            refine rg_one (i := 13) (by kernel_rfl) rfl rfl (fun Kp hKp => ?_)
            go_simp
            (refine (hA _ _ _ _ ((by assumption : Sat w0 _ _).pick (.cons (by (repeat (first | with_reducible exact Out.here _ | apply Out.there))) (.tail _))) (by (repeat (first | with_reducible assumption | with_reducible exact Rd.own | with_reducible exact Rd.nil | with_reducible apply Rd.cons)))).mono ?_; rintro e62 w62 ⟨rfl, hs62⟩)
            (try go_wp2_with fail)
            refine rg_back (hK := hKp) ?_ (fun hsk62 => ?_)
            · (first | assumption | (apply Sat.drew; assumption) | (apply Sat.pick; assumption; (repeat (first | exact Pick.nil _ | with_reducible exact Pick.tail _ | with_reducible exact Out.here _ | apply Out.there | apply Pick.cons | apply Pick.drop))))
            clear hKp Kp
            have hsz62 := hs62
            (try simp only [Act.put, aP, aZ, aS])
            refine rg_take (i := 14) (v := ?_) rfl (by kernel_rfl) (by kernel_rfl) (by kernel_rfl) (fun _ _ _ h => h) rfl (by assumption) ?_ ?_
            rotate_left
            · intro w hSw; (go_simp; first | done | with_reducible rfl | rfl | omega | assumption | (simp; omega))
            (try simp only [Act.put, aP, aZ, aS])
            refine rg_take (i := 15) (v := ?_) rfl (by kernel_rfl) (by kernel_rfl) (by kernel_rfl) (fun _ _ _ h => h) rfl (by assumption) ?_ ?_
            rotate_left
            · intro w hSw; (go_simp; first | done | with_reducible rfl | rfl | omega | assumption | (simp; omega))
            (try simp only [Act.put, aP, aZ, aS])
            refine rg_take (i := 16) (v := ?_) rfl (by kernel_rfl) (by kernel_rfl) (by kernel_rfl) (fun _ _ _ h => h) rfl (by assumption) ?_ ?_
            rotate_left
            · intro w hSw; (go_simp; first | done | with_reducible rfl | rfl | omega | assumption | (simp; omega))
            (try simp only [Act.put, aP, aZ, aS])
            refine rg_one (i := 18) (by kernel_rfl) rfl rfl (fun Kp hKp => ?_)
            (first | ((with_reducible apply st_storeAll); assumption; rfl; (go_simp; rfl); (repeat (first | with_reducible exact Out.here _ | apply Out.there)); rfl; (focus (first | (simp [Value.oneCell']; done) | (simp [Value.cells, Value.oneCell']; done))); rfl; intro wr8_18 hsr8_18; simp only [Value.cells] at hsr8_18) | ((with_reducible apply st_store); assumption; rfl; (go_simp; rfl); (repeat (first | with_reducible exact Out.here _ | apply Out.there)); rfl; (first | (focus (simp [Value.oneCell']; done)) | (simp [Value.cells, Value.oneCell'])); (first | (focus (simp; done)) | (simp [Value.cells])); intro wr8_18 hsr8_18; simp only [upd, Value.cells] at hsr8_18))
            refine rg_back (hK := hKp) ?_ (fun hskr8_18 => ?_)
            · (first | assumption | (apply Sat.drew; assumption) | (apply Sat.pick; assumption; (repeat (first | exact Pick.nil _ | with_reducible exact Pick.tail _ | with_reducible exact Out.here _ | apply Out.there | apply Pick.cons | apply Pick.drop))))
            clear hKp Kp
            have hszr8_18 := hsr8_18
            (try dsimp only [Act.put])
            refine rg_take (i := 19) (v := ?_) rfl (by kernel_rfl) (by kernel_rfl) (by kernel_rfl) (fun _ _ _ h => h) rfl (by assumption) ?_ ?_
            rotate_left
            · intro w hSw; (go_simp; first | done | with_reducible rfl | rfl | omega | assumption | (simp; omega))
            (try simp only [Act.put, aP, aZ, aS])
            refine rg_done (by kernel_rfl) ?_
            refine (by assumption : ∀ a' w', Met _ a' w' → _) _ _ ?_
            go_meet
            case rel => exact ⟨_, rfl, rfl, (by assumption : Sat w0 _ _).pick (by (repeat (first | exact Pick.nil _ | exact Pick.tail _ | exact Out.here _ | apply Out.there | apply Pick.cons | apply Pick.drop)))⟩
        · ((with_reducible apply st_alloc); assumption; intro b10 w10 hs10; simp only [Value.cells] at hs10)
          refine rg_back (hK := hKp) ?_ (fun hsk10 => ?_)
          · (first | assumption | (apply Sat.drew; assumption) | (apply Sat.pick; assumption; (repeat (first | exact Pick.nil _ | with_reducible exact Pick.tail _ | with_reducible exact Out.here _ | apply Out.there | apply Pick.cons | apply Pick.drop))))
          clear hKp Kp
          have hsz10 := hs10
          (try simp only [Act.put, aP, aZ, aS])
          refine rg_one (i := 6) (by kernel_rfl) rfl rfl (fun Kp hKp => ?_)
          ((with_reducible apply st_buildSlice); assumption; rfl; (go_simp; rfl); (simp [Value.cells]); omega; intro b55 w55 hs55)
          refine rg_back (hK := hKp) ?_ (fun hsk55 => ?_)
          · (first | assumption | (apply Sat.drew; assumption) | (apply Sat.pick; assumption; (repeat (first | exact Pick.nil _ | with_reducible exact Pick.tail _ | with_reducible exact Out.here _ | apply Out.there | apply Pick.cons | apply Pick.drop))))
          clear hKp Kp
          have hsz55 := hs55
          (try simp only [Act.put, aP, aZ, aS])
          refine rg_one (i := 12) (by kernel_rfl) rfl rfl (fun Kp hKp => ?_)
          ((with_reducible apply st_append); go_must (assumption; rfl; rfl; (repeat (first | with_reducible exact Out.here _ | apply Out.there)); (repeat (first | with_reducible assumption | with_reducible exact Rd.own | with_reducible exact Rd.nil | with_reducible apply Rd.cons)); (first | exact B8_one _ | exact I8_one _ | (simp [Value.oneCell'])); (first | omega | (simp only [maxLen]; omega)); omega; intro A61 c61 w61 hs61 hc61; (try ((refine hs61.own_elim ?_ ?_); omega; rintro g61 rfl)); try simp only [Nat.zero_add, List.nil_append] at hs61 hc61))
          refine rg_back (hK := hKp) ?_ (fun hsk61 => ?_)
          · (first | assumption | (apply Sat.drew; assumption) | (apply Sat.pick; assumption; (repeat (first | exact Pick.nil _ | with_reducible exact Pick.tail _ | with_reducible exact Out.here _ | apply Out.there | apply Pick.cons | apply Pick.drop))))
          clear hKp Kp
          have hsz61 := hs61
          (try simp only [Act.put, aP, aZ, aS])
          refine rg_one (i := 13) (by kernel_rfl) rfl rfl (fun Kp hKp => ?_)
          go_simp
          (refine (hA _ _ _ _ ((by assumption : Sat w0 _ _).pick (.cons (by (repeat (first | with_reducible exact Out.here _ | apply Out.there))) (.tail _))) (by (repeat (first | with_reducible assumption | with_reducible exact Rd.own | with_reducible exact Rd.nil | with_reducible apply Rd.cons)))).mono ?_; rintro e62 w62 ⟨rfl, hs62⟩)
          (try go_wp2_with fail)
          refine rg_back (hK := hKp) ?_ (fun hsk62 => ?_)
          · (first | assumption | (apply Sat.drew; assumption) | (apply Sat.pick; assumption; (repeat (first | exact Pick.nil _ | with_reducible exact Pick.tail _ | with_reducible exact Out.here _ | apply Out.there | apply Pick.cons | apply Pick.drop))))
          clear hKp Kp
          have hsz62 := hs62
          (try simp only [Act.put, aP, aZ, aS])
          refine rg_take (i := 14) (v := ?_) rfl (by kernel_rfl) (by kernel_rfl) (by kernel_rfl) (fun _ _ _ h => h) rfl (by assumption) ?_ ?_
          rotate_left
          · intro w hSw; (go_simp; first | done | with_reducible rfl | rfl | omega | assumption | (simp; omega))
          (try simp only [Act.put, aP, aZ, aS])
          refine rg_take (i := 15) (v := ?_) rfl (by kernel_rfl) (by kernel_rfl) (by kernel_rfl) (fun _ _ _ h => h) rfl (by assumption) ?_ ?_
          rotate_left
          · intro w hSw; (go_simp; first | done | with_reducible rfl | rfl | omega | assumption | (simp; omega))
          (try simp only [Act.put, aP, aZ, aS])
          refine rg_take (i := 16) (v := ?_) rfl (by kernel_rfl) (by kernel_rfl) (by kernel_rfl) (fun _ _ _ h => h) rfl (by assumption) ?_ ?_
          rotate_left
          · intro w hSw; (go_simp; first | done | with_reducible rfl | rfl | omega | assumption | (simp; omega))
          (try simp only [Act.put, aP, aZ, aS])
          refine rg_one (i := 18) (by kernel_rfl) rfl rfl (fun Kp hKp => ?_)
          (first | ((with_reducible apply st_storeAll); assumption; rfl; (go_simp; rfl); (repeat (first | with_reducible exact Out.here _ | apply Out.there)); rfl; (focus (first | (simp [Value.oneCell']; done) | (simp [Value.cells, Value.oneCell']; done))); rfl; intro wr8_18 hsr8_18; simp only [Value.cells] at hsr8_18) | ((with_reducible apply st_store); assumption; rfl; (go_simp; rfl); (repeat (first | with_reducible exact Out.here _ | apply Out.there)); rfl; (first | (focus (simp [Value.oneCell']; done)) | (simp [Value.cells, Value.oneCell'])); (first | (focus (simp; done)) | (simp [Value.cells])); intro wr8_18 hsr8_18; simp only [upd, Value.cells] at hsr8_18))
          refine rg_back (hK := hKp) ?_ (fun hskr8_18 => ?_)
          · (first | assumption | (apply Sat.drew; assumption) | (apply Sat.pick; assumption; (repeat (first | exact Pick.nil _ | with_reducible exact Pick.tail _ | with_reducible exact Out.here _ | apply Out.there | apply Pick.cons | apply Pick.drop))))
          clear hKp Kp
          have hszr8_18 := hsr8_18
          (try dsimp only [Act.put])
          refine rg_take (i := 19) (v := ?_) rfl (by kernel_rfl) (by kernel_rfl) (by kernel_rfl) (fun _ _ _ h => h) rfl (by assumption) ?_ ?_
          rotate_left
          · intro w hSw; (go_simp; first | done | with_reducible rfl | rfl | omega | assumption | (simp; omega))
          (try simp only [Act.put, aP, aZ, aS])
          refine rg_done (by kernel_rfl) ?_
          refine (by assumption : ∀ a' w', Met _ a' w' → _) _ _ ?_
          go_meet
          case rel => exact ⟨_, rfl, rfl, (by assumption : Sat w0 _ _).pick (by (repeat (first | exact Pick.nil _ | exact Pick.tail _ | exact Out.here _ | apply Out.there | apply Pick.cons | apply Pick.drop)))⟩
      case rest =>
        obtain ⟨b10, rfl, rfl, hsD⟩ := hcut
        refine hK11.out _ _ ?_
        clear hK11 K11
        refine wk_seq (fun K12 hK12 => ?_)
        -- at a cut
        go_cut [12, 13] from 65 to 81 (fun s12 s13 w => ∃ b12, s12 = .pointer (some ⟨b12, 0, none⟩) ∧ s13 = .int .i64 terr ∧ Sat w0 w (MR p17 M' :: MR q N' :: blk b10 (.cells #[.int .i64 te, .int .i64 ts, .int .i64 tn] 30 (0, 0)) :: blk b12 (.cells #[.int .i64 te, .int .i64 ts, .int .i64 tn] 30 (0, 0)) :: L))
        case first =>
          as_aux_lemma =>
          refine rg_start2 (L := MR p17 M' :: blk b10 (.cells #[.int .i64 te, .int .i64 ts, .int .i64 tn] 30 (0, 0)) :: L) rfl (by assumption) (by (repeat (first | exact Pick.nil _ | with_reducible exact Pick.tail _ | with_reducible exact Out.here _ | apply Out.there | apply Pick.cons | apply Pick.drop))) (fun wr9 hsr9 hsq9 => ?_)
          have hsz9 := hsr9
          refine rg_take (i := 0) (v := ?_) rfl (by kernel_rfl) (by kernel_rfl) (by kernel_rfl) (fun _ _ _ h => h) rfl (by assumption) ?_ ?_
          rotate_left
          · intro w hSw; (go_simp; first | done | with_reducible rfl | rfl | omega | assumption | (simp; omega))
          (try simp only [Act.put, aP, aZ, aS])
          refine rg_take (i := 1) (v := ?_) rfl (by kernel_rfl) (by kernel_rfl) (by kernel_rfl) (fun _ _ _ h => h) rfl (by assumption) ?_ ?_
          rotate_left
          · intro w hSw; (go_simp; first | done | with_reducible rfl | rfl | omega | assumption | (simp; omega))
          (try simp only [Act.put, aP, aZ, aS])
          refine rg_take (i := 2) (v := ?_) rfl (by kernel_rfl) (by kernel_rfl) (by kernel_rfl) (fun _ _ _ h => h) rfl (by assumption) ?_ ?_
          rotate_left
          · intro w hSw; (go_simp; first | done | with_reducible rfl | rfl | omega | assumption | (simp; omega))
          (try simp only [Act.put, aP, aZ, aS])
          refine rg_take (i := 3) (v := ?_) rfl (by kernel_rfl) (by kernel_rfl) (by kernel_rfl) (fun _ _ _ h => h) rfl (by assumption) ?_ ?_
          rotate_left
          · intro w hSw; (go_simp; first | done | with_reducible rfl | rfl | omega | assumption | (simp; omega))
          (try simp only [Act.put, aP, aZ, aS])
          refine rg_take (i := 4) (v := ?_) rfl (by kernel_rfl) (by kernel_rfl) (by kernel_rfl) (fun _ _ _ h => h) rfl (by assumption) ?_ ?_
          rotate_left
          · intro w hSw; (go_simp; first | done | with_reducible rfl | rfl | omega | assumption | (simp; omega))
          (try simp only [Act.put, aP, aZ, aS])
          refine rg_take (i := 5) (v := ?_) rfl (by kernel_rfl) (by kernel_rfl) (by kernel_rfl) (fun _ _ _ h => h) rfl (by assumption) ?_ ?_
          rotate_left
          · intro w hSw; ((with_reducible apply yl_load); assumption; rfl; (repeat (first | with_reducible assumption | ((with_reducible apply Cl.own); exact rfl) | ((with_reducible apply Cl.blkL); exact rfl) | with_reducible apply Cl.cons)); rfl)
          (try simp only [Act.put, aP, aZ, aS])
          refine rg_take (i := 7) (v := ?_) rfl (by kernel_rfl) (by kernel_rfl) (by kernel_rfl) (fun _ _ _ h => h) rfl (by assumption) ?_ ?_
          rotate_left
          · intro w hSw; (go_simp; first | done | with_reducible rfl | rfl | omega | assumption | (simp; omega))
          (try simp only [Act.put, aP, aZ, aS])
          refine rg_take (i := 8) (v := ?_) rfl (by kernel_rfl) (by kernel_rfl) (by kernel_rfl) (fun _ _ _ h => h) rfl (by assumption) ?_ ?_
          rotate_left
          · intro w hSw; (go_simp; first | done | with_reducible rfl | rfl | omega | assumption | (simp; omega))
          (try simp only [Act.put, aP, aZ, aS])
          refine rg_take (i := 9) (v := ?_) rfl (by kernel_rfl) (by kernel_rfl) (by kernel_rfl) (fun _ _ _ h => h) rfl (by assumption) ?_ ?_
          rotate_left
          · intro w hSw; (go_simp; first | done | with_reducible rfl | rfl | omega | assumption | (simp; omega))
          (try simp only [Act.put, aP, aZ, aS])
          refine rg_take (i := 10) (v := ?_) rfl (by kernel_rfl) (by kernel_rfl) (by kernel_rfl) (fun _ _ _ h => h) rfl (by assumption) ?_ ?_
          rotate_left
          · intro w hSw; (go_simp; first | done | with_reducible rfl | rfl | omega | assumption | (simp; omega))
          (try simp only [Act.put, aP, aZ, aS])
          refine rg_take (i := 11) (v := ?_) rfl (by kernel_rfl) (by kernel_rfl) (by kernel_rfl) (fun _ _ _ h => h) rfl (by assumption) ?_ ?_
          rotate_left
          · intro w hSw; ((with_reducible apply yl_load); assumption; rfl; (repeat (first | with_reducible assumption | ((with_reducible apply Cl.own); exact rfl) | ((with_reducible apply Cl.blkL); exact rfl) | with_reducible apply Cl.cons)); rfl)
          (try simp only [Act.put, aP, aZ, aS])
          refine rg_two (i := 6) (j := 17) (by kernel_rfl) rfl rfl rfl rfl (fun Kp hKp => ?_) (fun Kp hKp => ?_)
          · ((with_reducible apply st_buildSlice); assumption; rfl; (go_simp; rfl); (simp [Value.cells]); omega; intro b72 w72 hs72)
            refine rg_back (hK := hKp) ?_ (fun hsk72 => ?_)
            · (first | assumption | (apply Sat.drew; assumption) | (apply Sat.pick; assumption; (repeat (first | exact Pick.nil _ | with_reducible exact Pick.tail _ | with_reducible exact Out.here _ | apply Out.there | apply Pick.cons | apply Pick.drop))))
            clear hKp Kp
            have hsz72 := hs72
            (try simp only [Act.put, aP, aZ, aS])
            refine rg_two (i := 12) (j := 17) (by kernel_rfl) rfl rfl rfl rfl (fun Kp hKp => ?_) (fun Kp hKp => ?_)
            · ((with_reducible apply st_append); go_must (assumption; rfl; rfl; (repeat (first | with_reducible exact Out.here _ | apply Out.there)); (repeat (first | with_reducible assumption | with_reducible exact Rd.own | with_reducible exact Rd.nil | with_reducible apply Rd.cons)); (first | exact B8_one _ | exact I8_one _ | (simp [Value.oneCell'])); (first | omega | (simp only [maxLen]; omega)); omega; intro A78 c78 w78 hs78 hc78; (try ((refine hs78.own_elim ?_ ?_); omega; rintro g78 rfl)); try simp only [Nat.zero_add, List.nil_append] at hs78 hc78))
              refine rg_back (hK := hKp) ?_ (fun hsk78 => ?_)
              · (first | assumption | (apply Sat.drew; assumption) | (apply Sat.pick; assumption; (repeat (first | exact Pick.nil _ | with_reducible exact Pick.tail _ | with_reducible exact Out.here _ | apply Out.there | apply Pick.cons | apply Pick.drop))))
              clear hKp Kp
              have hsz78 := hs78
              (try simp only [Act.put, aP, aZ, aS])
              refine rg_two (i := 13) (j := 17) (by kernel_rfl) rfl rfl rfl rfl (fun Kp hKp => ?_) (fun Kp hKp => ?_)
              · go_simp
                (refine (hB _ _ _ _ ((by assumption : Sat w0 _ _).pick (.cons (by (repeat (first | with_reducible exact Out.here _ | apply Out.there))) (.tail _))) (by (repeat (first | with_reducible assumption | with_reducible exact Rd.own | with_reducible exact Rd.nil | with_reducible apply Rd.cons)))).mono ?_; rintro e79 w79 ⟨rfl, hs79⟩)
                (try go_wp2_with fail)
                refine rg_back (hK := hKp) ?_ (fun hsk79 => ?_)
                · (first | assumption | (apply Sat.drew; assumption) | (apply Sat.pick; assumption; (repeat (first | exact Pick.nil _ | with_reducible exact Pick.tail _ | with_reducible exact Out.here _ | apply Out.there | apply Pick.cons | apply Pick.drop))))
                clear hKp Kp
                have hsz79 := hs79
                (try simp only [Act.put, aP, aZ, aS])
                refine rg_take (i := 14) (v := ?_) rfl (by kernel_rfl) (by kernel_rfl) (by kernel_rfl) (fun _ _ _ h => h) rfl (by assumption) ?_ ?_
                rotate_left
                · intro w hSw; (go_simp; first | done | with_reducible rfl | rfl | omega | assumption | (simp; omega))
                (try simp only [Act.put, aP, aZ, aS])
                refine rg_take (i := 15) (v := ?_) rfl (by kernel_rfl) (by kernel_rfl) (by kernel_rfl) (fun _ _ _ h => h) rfl (by assumption) ?_ ?_
                rotate_left
                · intro w hSw; (go_simp; first | done | with_reducible rfl | rfl | omega | assumption | (simp; omega))
                (try simp only [Act.put, aP, aZ, aS])
                refine rg_take (i := 16) (v := ?_) rfl (by kernel_rfl) (by kernel_rfl) (by kernel_rfl) (fun _ _ _ h => h) rfl (by assumption) ?_ ?_
                rotate_left
                · intro w hSw; (go_simp; first | done | with_reducible rfl | rfl | omega | assumption | (simp; omega))
                (try simp only [Act.put, aP, aZ, aS])
                refine rg_one (i := 17) (by kernel_rfl) rfl rfl (fun Kp hKp => ?_)
                ((with_reducible apply st_alloc); assumption; intro b12 w12 hs12; simp only [Value.cells] at hs12)
                refine rg_back (hK := hKp) ?_ (fun hsk12 => ?_)
                · (first | assumption | (apply Sat.drew; assumption) | (apply Sat.pick; assumption; (repeat (first | exact Pick.nil _ | with_reducible exact Pick.tail _ | with_reducible exact Out.here _ | apply Out.there | apply Pick.cons | apply Pick.drop))))
                clear hKp Kp
                have hsz12 := hs12
                (try simp only [Act.put, aP, aZ, aS])
                refine rg_one (i := 18) (by kernel_rfl) rfl rfl (fun Kp hKp => ?_)
                (first | ((with_reducible apply st_storeAll); assumption; rfl; (go_simp; rfl); (repeat (first | with_reducible exact Out.here _ | apply Out.there)); rfl; (focus (first | (simp [Value.oneCell']; done) | (simp [Value.cells, Value.oneCell']; done))); rfl; intro wr9_18 hsr9_18; simp only [Value.cells] at hsr9_18) | ((with_reducible apply st_store); assumption; rfl; (go_simp; rfl); (repeat (first | with_reducible exact Out.here _ | apply Out.there)); rfl; (first | (focus (simp [Value.oneCell']; done)) | (simp [Value.cells, Value.oneCell'])); (first | (focus (simp; done)) | (simp [Value.cells])); intro wr9_18 hsr9_18; simp only [upd, Value.cells] at hsr9_18))
                refine rg_back (hK := hKp) ?_ (fun hskr9_18 => ?_)
                · (first | assumption | (apply Sat.drew; assumption) | (apply Sat.pick; assumption; (repeat (first | exact Pick.nil _ | with_reducible exact Pick.tail _ | with_reducible exact Out.here _ | apply Out.there | apply Pick.cons | apply Pick.drop))))
                clear hKp Kp
                have hszr9_18 := hsr9_18
                (try dsimp only [Act.put])
                refine rg_take (i := 19) (v := ?_) rfl (by kernel_rfl) (by kernel_rfl) (by kernel_rfl) (fun _ _ _ h => h) rfl (by assumption) ?_ ?_
                rotate_left
                · intro w hSw; (go_simp; first | done | with_reducible rfl | rfl | omega | assumption | (simp; omega))
                (try simp only [Act.put, aP, aZ, aS])
                refine rg_done (by kernel_rfl) ?_
                refine (by assumption : ∀ a' w', Met _ a' w' → _) _ _ ?_
                go_meet
                case rel => exact ⟨_, rfl, rfl, (by assumption : Sat w0 _ _).pick (by (repeat (first | exact Pick.nil _ | exact Pick.tail _ | exact Out.here _ | apply Out.there | apply Pick.cons | apply Pick.drop)))⟩
              · ((with_reducible apply st_alloc); assumption; intro b12 w12 hs12; simp only [Value.cells] at hs12)
                refine rg_back (hK := hKp) ?_ (fun hsk12 => ?_)
                · (first | assumption | (apply Sat.drew; assumption) | (apply Sat.pick; assumption; (repeat (first | exact Pick.nil _ | with_reducible exact Pick.tail _ | with_reducible exact Out.here _ | apply Out.there | apply Pick.cons | apply Pick.drop))))
                clear hKp Kp
                have hsz12 := hs12
                (try simp only [Act.put, aP, aZ, aS])
                refine rg_one (i := 13) (by kernel_rfl) rfl rfl (fun Kp hKp => ?_)
                go_simp
                (refine (hB _ _ _ _ ((by assumption : Sat w0 _ _).pick (.cons (by (repeat (first | with_reducible exact Out.here _ | apply Out.there))) (.tail _))) (by (repeat (first | with_reducible assumption | with_reducible exact Rd.own | with_reducible exact Rd.nil | with_reducible apply Rd.cons)))).mono ?_; rintro e79 w79 ⟨rfl, hs79⟩)
                (try go_wp2_with fail)
                refine rg_back (hK := hKp) ?_ (fun hsk79 => ?_)
                · (first | assumption | (apply Sat.drew; assumption) | (apply Sat.pick; assumption; (repeat (first | exact Pick.nil _ | with_reducible exact Pick.tail _ | with_reducible exact Out.here _ | apply Out.there | apply Pick.cons | apply Pick.drop))))
                clear hKp Kp
                have hsz79 := hs79
                (try simp only [Act.put, aP, aZ, aS])
                refine rg_take (i := 14) (v := ?_) rfl (by kernel_rfl) (by kernel_rfl) (by kernel_rfl) (fun _ _ _ h => h) rfl (by assumption) ?_ ?_
                rotate_left
                · intro w hSw; (go_simp; first | done | with_reducible rfl | rfl | omega | assumption | (simp; omega))
                (try simp only [Act.put, aP, aZ, aS])
                refine rg_take (i := 15) (v := ?_) rfl (by kernel_rfl) (by kernel_rfl) (by kernel_rfl) (fun _ _ _ h => h) rfl (by assumption) ?_ ?_
                rotate_left
                · intro w hSw; (go_simp; first | done | with_reducible rfl | rfl | omega | assumption | (simp; omega))
                (try simp only [Act.put, aP, aZ, aS])
                refine rg_take (i := 16) (v := ?_) rfl (by kernel_rfl) (by kernel_rfl) (by kernel_rfl) (fun _ _ _ h => h) rfl (by assumption) ?_ ?_
                rotate_left
                · intro w hSw; (go_simp; first | done | with_reducible rfl | rfl | omega | assumption | (simp; omega))
                (try simp only [Act.put, aP, aZ, aS])
                refine rg_one (i := 18) (by kernel_rfl) rfl rfl (fun Kp hKp => ?_)
                (first | ((with_reducible apply st_storeAll); assumption; rfl; (go_simp; rfl); (repeat (first | with_reducible exact Out.here _ | apply Out.there)); rfl; (focus (first | (simp [Value.oneCell']; done) | (simp [Value.cells, Value.oneCell']; done))); rfl; intro wr9_18 hsr9_18; simp only [Value.cells] at hsr9_18) | ((with_reducible apply st_store); assumption; rfl; (go_simp; rfl); (repeat (first | with_reducible exact Out.here _ | apply Out.there)); rfl; (first | (focus (simp [Value.oneCell']; done)) | (simp [Value.cells, Value.oneCell'])); (first | (focus (simp; done)) | (simp [Value.cells])); intro wr9_18 hsr9_18; simp only [upd, Value.cells] at hsr9_18))
                refine rg_back (hK := hKp) ?_ (fun hskr9_18 => ?_)
                · (first | assumption | (apply Sat.drew; assumption) | (apply Sat.pick; assumption; (repeat (first | exact Pick.nil _ | with_reducible exact Pick.tail _ | with_reducible exact Out.here _ | apply Out.there | apply Pick.cons | apply Pick.drop))))
                clear hKp Kp
                have hszr9_18 := hsr9_18
                (try dsimp only [Act.put])
                refine rg_take (i := 19) (v := ?_) rfl (by kernel_rfl) (by kernel_rfl) (by kernel_rfl) (fun _ _ _ h => h) rfl (by assumption) ?_ ?_
                rotate_left
                · intro w hSw; (go_simp; first | done | with_reducible rfl | rfl | omega | assumption | (simp; omega))
                (try simp only [Act.put, aP, aZ, aS])
                refine rg_done (by kernel_rfl) ?_
                refine (by assumption : ∀ a' w', Met _ a' w' → _) _ _ ?_
                go_meet
                case rel => exact ⟨_, rfl, rfl, (by assumption : Sat w0 _ _).pick (by (repeat (first | exact Pick.nil _ | exact Pick.tail _ | exact Out.here _ | apply Out.there | apply Pick.cons | apply Pick.drop)))⟩
            · ((with_reducible apply st_alloc); assumption; intro b12 w12 hs12; simp only [Value.cells] at hs12)
              refine rg_back (hK := hKp) ?_ (fun hsk12 => ?_)
              · (first | assumption | (apply Sat.drew; assumption) | (apply Sat.pick; assumption; (repeat (first | exact Pick.nil _ | with_reducible exact Pick.tail _ | with_reducible exact Out.here _ | apply Out.there | apply Pick.cons | apply Pick.drop))))
              clear hKp Kp
              have hsz12 := hs12
              (try simp only [Act.put, aP, aZ, aS])
              refine rg_one (i := 12) (by kernel_rfl) rfl rfl (fun Kp hKp => ?_)
              ((with_reducible apply st_append); go_must (assumption; rfl; rfl; (repeat (first | with_reducible exact Out.here _ | apply Out.there)); (repeat (first | with_reducible assumption | with_reducible exact Rd.own | with_reducible exact Rd.nil | with_reducible apply Rd.cons)); (first | exact B8_one _ | exact I8_one _ | (simp [Value.oneCell'])); (first | omega | (simp only [maxLen]; omega)); omega; intro A78 c78 w78 hs78 hc78; (try ((refine hs78.own_elim ?_ ?_); omega; rintro g78 rfl)); try simp only [Nat.zero_add, List.nil_append] at hs78 hc78))
              refine rg_back (hK := hKp) ?_ (fun hsk78 => ?_)
              · (first | assumption | (apply Sat.drew; assumption) | (apply Sat.pick; assumption; (repeat (first | exact Pick.nil _ | with_reducible exact Pick.tail _ | with_reducible exact Out.here _ | apply Out.there | apply Pick.cons | apply Pick.drop))))
              clear hKp Kp
              have hsz78 := hs78
              (try simp only [Act.put, aP, aZ, aS])
              refine rg_one (i := 13) (by kernel_rfl) rfl rfl (fun Kp hKp => ?_)
              go_simp
              (refine (hB _ _ _ _ ((by assumption : Sat w0 _ _).pick (.cons (by (repeat (first | with_reducible exact Out.here _ | apply Out.there))) (.tail _))) (by (repeat (first | with_reducible assumption | with_reducible exact Rd.own | with_reducible exact Rd.nil | with_reducible apply Rd.cons)))).mono ?_; rintro e79 w79 ⟨rfl, hs79⟩)
              (try go_wp2_with fail)
              refine rg_back (hK := hKp) ?_ (fun hsk79 => ?_)
              · (first | assumption | (apply Sat.drew; assumption) | (apply Sat.pick; assumption; (repeat (first | exact Pick.nil _ | with_reducible exact Pick.tail _ | with_reducible exact Out.here _ | apply Out.there | apply Pick.cons | apply Pick.drop))))
              clear hKp Kp
              have hsz79 := hs79
              (try simp only [Act.put, aP, aZ, aS])
              refine rg_take (i := 14) (v := ?_) rfl (by kernel_rfl) (by kernel_rfl) (by kernel_rfl) (fun _ _ _ h => h) rfl (by assumption) ?_ ?_
              rotate_left
              · intro w hSw; (go_simp; first | done | with_reducible rfl | rfl | omega | assumption | (simp; omega))
              (try simp only [Act.put, aP, aZ, aS])
              refine rg_take (i := 15) (v := ?_) rfl (by kernel_rfl) (by kernel_rfl) (by kernel_rfl) (fun _ _ _ h => h) rfl (by assumption) ?_ ?_
              rotate_left
              · intro w hSw; (go_simp; first | done | with_reducible rfl | rfl | omega | assumption | (simp; omega))
              (try simp only [Act.put, aP, aZ, aS])
              refine rg_take (i := 16) (v := ?_) rfl (by kernel_rfl) (by kernel_rfl) (by kernel_rfl) (fun _ _ _ h => h) rfl (by assumption) ?_ ?_
              rotate_left
              · intro w hSw; (go_simp; first | done | with_reducible rfl | rfl | omega | assumption | (simp; omega))
              (try simp only [Act.put, aP, aZ, aS])
              refine rg_one (i := 18) (by kernel_rfl) rfl rfl (fun Kp hKp => ?_)
              (first | ((with_reducible apply st_storeAll); assumption; rfl; (go_simp; rfl); (repeat (first | with_reducible exact Out.here _ | apply Out.there)); rfl; (focus (first | (simp [Value.oneCell']; done) | (simp [Value.cells, Value.oneCell']; done))); rfl; intro wr9_18 hsr9_18; simp only [Value.cells] at hsr9_18) | ((with_reducible apply st_store); assumption; rfl; (go_simp; rfl); (repeat (first | with_reducible exact Out.here _ | apply Out.there)); rfl; (first | (focus (simp [Value.oneCell']; done)) | (simp [Value.cells, Value.oneCell'])); (first | (focus (simp; done)) | (simp [Value.cells])); intro wr9_18 hsr9_18; simp only [upd, Value.cells] at hsr9_18))
              refine rg_back (hK := hKp) ?_ (fun hskr9_18 => ?_)
              · (first | assumption | (apply Sat.drew; assumption) | (apply Sat.pick; assumption; (repeat (first | exact Pick.nil _ | with_reducible exact Pick.tail _ | with_reducible exact Out.here _ | apply Out.there | apply Pick.cons | apply Pick.drop))))
              clear hKp Kp
              have hszr9_18 := hsr9_18
              (try dsimp only [Act.put])
              refine rg_take (i := 19) (v := ?_) rfl (by kernel_rfl) (by kernel_rfl) (by kernel_rfl) (fun _ _ _ h => h) rfl (by assumption) ?_ ?_
              rotate_left
              · intro w hSw; (go_simp; first | done | with_reducible rfl | rfl | omega | assumption | (simp; omega))
              (try simp only [Act.put, aP, aZ, aS])
              refine rg_done (by kernel_rfl) ?_
              refine (by assumption : ∀ a' w', Met _ a' w' → _) _ _ ?_
              go_meet
              case rel => exact ⟨_, rfl, rfl, (by assumption : Sat w0 _ _).pick (by (repeat (first | exact Pick.nil _ | exact Pick.tail _ | exact Out.here _ | apply Out.there | apply Pick.cons | apply Pick.drop)))⟩
          · ((with_reducible apply st_alloc); assumption; intro b12 w12 hs12; simp only [Value.cells] at hs12)
            refine rg_back (hK := hKp) ?_ (fun hsk12 => ?_)
            · (first | assumption | (apply Sat.drew; assumption) | (apply Sat.pick; assumption; (repeat (first | exact Pick.nil _ | with_reducible exact Pick.tail _ | with_reducible exact Out.here _ | apply Out.there | apply Pick.cons | apply Pick.drop))))
            clear hKp Kp
            have hsz12 := hs12
            (try simp only [Act.put, aP, aZ, aS])
            refine rg_one (i := 6) (by kernel_rfl) rfl rfl (fun Kp hKp => ?_)
            ((with_reducible apply st_buildSlice); assumption; rfl; (go_simp; rfl); (simp [Value.cells]); omega; intro b72 w72 hs72)
            refine rg_back (hK := hKp) ?_ (fun hsk72 => ?_)
            · (first | assumption | (apply Sat.drew; assumption) | (apply Sat.pick; assumption; (repeat (first | exact Pick.nil _ | with_reducible exact Pick.tail _ | with_reducible exact Out.here _ | apply Out.there | apply Pick.cons | apply Pick.drop))))
            clear hKp Kp
            have hsz72 := hs72
            (try simp only [Act.put, aP, aZ, aS])
            refine rg_one (i := 12) (by kernel_rfl) rfl rfl (fun Kp hKp => ?_)
            ((with_reducible apply st_append); go_must (assumption; rfl; rfl; (repeat (first | with_reducible exact Out.here _ | apply Out.there)); (repeat (first | with_reducible assumption | with_reducible exact Rd.own | with_reducible exact Rd.nil | with_reducible apply Rd.cons)); (first | exact B8_one _ | exact I8_one _ | (simp [Value.oneCell'])); (first | omega | (simp only [maxLen]; omega)); omega; intro A78 c78 w78 hs78 hc78; (try ((refine hs78.own_elim ?_ ?_); omega; rintro g78 rfl)); try simp only [Nat.zero_add, List.nil_append] at hs78 hc78))
            refine rg_back (hK := hKp) ?_ (fun hsk78 => ?_)
            · (first | assumption | (apply Sat.drew; assumption) | (apply Sat.pick; assumption; (repeat (first | exact Pick.nil _ | with_reducible exact Pick.tail _ | with_reducible exact Out.here _ | apply Out.there | apply Pick.cons | apply Pick.drop))))
            clear hKp Kp
            have hsz78 := hs78
            (try simp only [Act.put, aP, aZ, aS])
            refine rg_one (i := 13) (by kernel_rfl) rfl rfl (fun Kp hKp => ?_)
            go_simp
            (refine (hB _ _ _ _ ((by assumption : Sat w0 _ _).pick (.cons (by (repeat (first | with_reducible exact Out.here _ | apply Out.there))) (.tail _))) (by (repeat (first | with_reducible assumption | with_reducible exact Rd.own | with_reducible exact Rd.nil | with_reducible apply Rd.cons)))).mono ?_; rintro e79 w79 ⟨rfl, hs79⟩)
            (try go_wp2_with fail)
            refine rg_back (hK := hKp) ?_ (fun hsk79 => ?_)
            · (first | assumption | (apply Sat.drew; assumption) | (apply Sat.pick; assumption; (repeat (first | exact Pick.nil _ | with_reducible exact Pick.tail _ | with_reducible exact Out.here _ | apply Out.there | apply Pick.cons | apply Pick.drop))))
            clear hKp Kp
            have hsz79 := hs79
            (try simp only [Act.put, aP, aZ, aS])
            refine rg_take (i := 14) (v := ?_) rfl (by kernel_rfl) (by kernel_rfl) (by kernel_rfl) (fun _ _ _ h => h) rfl (by assumption) ?_ ?_
            rotate_left
            · intro w hSw; (go_simp; first | done | with_reducible rfl | rfl | omega | assumption | (simp; omega))
            (try simp only [Act.put, aP, aZ, aS])
            refine rg_take (i := 15) (v := ?_) rfl (by kernel_rfl) (by kernel_rfl) (by kernel_rfl) (fun _ _ _ h => h) rfl (by assumption) ?_ ?_
            rotate_left
            · intro w hSw; (go_simp; first | done | with_reducible rfl | rfl | omega | assumption | (simp; omega))
            (try simp only [Act.put, aP, aZ, aS])
            refine rg_take (i := 16) (v := ?_) rfl (by kernel_rfl) (by kernel_rfl) (by kernel_rfl) (fun _ _ _ h => h) rfl (by assumption) ?_ ?_
            rotate_left
            · intro w hSw; (go_simp; first | done | with_reducible rfl | rfl | omega | assumption | (simp; omega))
            (try simp only [Act.put, aP, aZ, aS])
            refine rg_one (i := 18) (by kernel_rfl) rfl rfl (fun Kp hKp => ?_)
            (first | ((with_reducible apply st_storeAll); assumption; rfl; (go_simp; rfl); (repeat (first | with_reducible exact Out.here _ | apply Out.there)); rfl; (focus (first | (simp [Value.oneCell']; done) | (simp [Value.cells, Value.oneCell']; done))); rfl; intro wr9_18 hsr9_18; simp only [Value.cells] at hsr9_18) | ((with_reducible apply st_store); assumption; rfl; (go_simp; rfl); (repeat (first | with_reducible exact Out.here _ | apply Out.there)); rfl; (first | (focus (simp [Value.oneCell']; done)) | (simp [Value.cells, Value.oneCell'])); (first | (focus (simp; done)) | (simp [Value.cells])); intro wr9_18 hsr9_18; simp only [upd, Value.cells] at hsr9_18))
            refine rg_back (hK := hKp) ?_ (fun hskr9_18 => ?_)
            · (first | assumption | (apply Sat.drew; assumption) | (apply Sat.pick; assumption; (repeat (first | exact Pick.nil _ | with_reducible exact Pick.tail _ | with_reducible exact Out.here _ | apply Out.there | apply Pick.cons | apply Pick.drop))))
            clear hKp Kp
            have hszr9_18 := hsr9_18
            (try dsimp only [Act.put])
            refine rg_take (i := 19) (v := ?_) rfl (by kernel_rfl) (by kernel_rfl) (by kernel_rfl) (fun _ _ _ h => h) rfl (by assumption) ?_ ?_
            rotate_left
            · intro w hSw; (go_simp; first | done | with_reducible rfl | rfl | omega | assumption | (simp; omega))
            (try simp only [Act.put, aP, aZ, aS])
            refine rg_done (by kernel_rfl) ?_
            refine (by assumption : ∀ a' w', Met _ a' w' → _) _ _ ?_
            go_meet
            case rel => exact ⟨_, rfl, rfl, (by assumption : Sat w0 _ _).pick (by (repeat (first | exact Pick.nil _ | exact Pick.tail _ | exact Out.here _ | apply Out.there | apply Pick.cons | apply Pick.drop)))⟩
        case rest =>
          clear hsD
          obtain ⟨b12, rfl, rfl, hsD⟩ := hcut
          refine hK12.out _ _ ?_
          clear hK12 K12
          refine wk_seq (fun K13 hK13 => ?_)
          refine wk_seq (fun K14 hK14 => ?_)
          refine wk_reg ?_
          iterate 2 (refine pl_take (v := ?_) rfl ?_ ?_; rotate_left; (· (first | ((with_reducible apply yl_loadAgg); assumption; rfl; (repeat (first | with_reducible exact Out.here _ | apply Out.there)); (simp); rfl; rfl) | ((with_reducible apply yl_loadAggR); assumption; rfl; (repeat (first | with_reducible assumption | with_reducible exact Rd.own | with_reducible exact Rd.nil | with_reducible apply Rd.cons)); rfl))); (try simp only [Act.put, aP, aZ, aS]))
          iterate 2 (refine pl_take (v := .bool false) rfl ?_ ?_; (· (go_simp; first | done | with_reducible rfl | rfl | omega | assumption | (simp; omega))); (try simp only [Act.put, aP, aZ, aS]))
          iterate 2 (refine pl_take (v := ?_) (by kernel_rfl) ?_ ?_; rotate_left; (· (go_simp; first | done | with_reducible rfl | rfl | omega | assumption | (simp; omega))); (try simp only [Act.put, aP, aZ, aS]))
          refine pl_take (v := .bool false) (by kernel_rfl) ?_ ?_
          · (go_simp; first | done | with_reducible rfl | rfl | omega | assumption | (simp; omega))
          (try simp only [Act.put, aP, aZ, aS])
          refine pl_take (v := .bool false) rfl ?_ ?_
          · (go_simp; first | done | with_reducible rfl | rfl | omega | assumption | (simp; omega))
          (try simp only [Act.put, aP, aZ, aS])
          refine pl_done ?_
          refine hK14.out _ _ ?_
          (try clear hK14 K14)
          refine wp_cond_false rfl ?_
          refine wp_skip ?_
          refine hK13.out _ _ ?_
          (try clear hK13 K13)
          refine wk_seq (fun K16 hK16 => ?_)
          refine wk_reg ?_
          iterate 2 (refine pl_take (v := ?_) rfl ?_ ?_; rotate_left; (· (go_simp; first | done | with_reducible rfl | rfl | omega | assumption | (simp; omega))); (try simp only [Act.put, aP, aZ, aS]))
          by_cases hk : ¬ (i : Int) ≠ kk
          · refine pl_take (v := .bool true) rfl ?_ ?_
            · (go_simp; first | done | with_reducible rfl | rfl | omega | assumption | (simp; omega))
            (try simp only [Act.put, aP, aZ, aS])
            refine pl_done ?_
            refine hK16.out _ _ ?_
            (try clear hK16 K16)
            refine wp_cond_true rfl ?_
            refine wk_seq (fun K17 hK17 => ?_)
            refine wk_reg ?_
            refine pl_take (v := ?_) rfl ?_ ?_
            rotate_left
            · (go_simp; first | done | with_reducible rfl | rfl | omega | assumption | (simp; omega))
            (try simp only [Act.put, aP, aZ, aS])
            refine pl_eff rfl (fun Kp hKp => ?_)
            go_simp
            (refine (hsv _ _ ((by assumption : Sat w0 _ _).pick (.cons (by (repeat (first | with_reducible exact Out.here _ | apply Out.there))) (.tail _)))).mono ?_; rintro e95 w95 ⟨Y95, c95, rfl, hs95⟩)
            (try go_wp2_with fail)
            refine hKp.out _ _ ?_
            clear hKp Kp
            (try simp only [Act.put, aP, aZ, aS])
            refine pl_eff rfl (fun Kp hKp => ?_)
            go_simp
            (refine (hrs _ _ _ _ (by assumption) (by (repeat (first | with_reducible assumption | with_reducible exact Rd.own | with_reducible exact Rd.nil | with_reducible apply Rd.cons)))).mono ?_; rintro e96 w96 (⟨h, _⟩ | ⟨M3, p96, h3, rfl, hs96⟩); (cases h); simp only [Option.some.injEq] at h3; subst h3)
            (try go_wp2_with fail)
            refine hKp.out _ _ ?_
            clear hKp Kp
            (try simp only [Act.put, aP, aZ, aS])
            iterate 5 (refine pl_take (v := ?_) rfl ?_ ?_; rotate_left; (· (go_simp; first | done | with_reducible rfl | rfl | omega | assumption | (simp; omega))); (try simp only [Act.put, aP, aZ, aS]))
            refine pl_done ?_
            refine hK17.out _ _ ?_
            (try clear hK17 K17)
            refine wk_seq (fun K18 hK18 => ?_)
            refine wk_seq (fun K19 hK19 => ?_)
            refine wk_reg ?_
            refine pl_take (v := ?_) rfl ?_ ?_
            rotate_left
            · (go_simp; first | done | with_reducible rfl | rfl | omega | assumption | (simp; omega))
            (try simp only [Act.put, aP, aZ, aS])
            refine pl_eff rfl (fun Kp hKp => ?_)
            go_simp
            ((refine (numL_spec _ (by assumption)).mono ?_); rintro e100 w100 ⟨rfl, hs100⟩)
            (try go_wp2_with fail)
            refine hKp.out _ _ ?_
            clear hKp Kp
            (try simp only [Act.put, aP, aZ, aS])
            iterate 2 (refine pl_take (v := .bool false) rfl ?_ ?_; (· (go_simp; first | done | with_reducible rfl | rfl | omega | assumption | (simp; omega))); (try simp only [Act.put, aP, aZ, aS]))
            refine pl_take (v := ?_) (by kernel_rfl) ?_ ?_
            rotate_left
            · (go_simp; first | done | with_reducible rfl | rfl | omega | assumption | (simp; omega))
            (try simp only [Act.put, aP, aZ, aS])
            refine pl_take (v := .bool false) (by kernel_rfl) ?_ ?_
            · (go_simp; first | done | with_reducible rfl | rfl | omega | assumption | (simp; omega))
            (try simp only [Act.put, aP, aZ, aS])
            refine pl_take (v := .bool false) rfl ?_ ?_
            · (go_simp; first | done | with_reducible rfl | rfl | omega | assumption | (simp; omega))
            (try simp only [Act.put, aP, aZ, aS])
            refine pl_done ?_
            refine hK19.out _ _ ?_
            (try clear hK19 K19)
            refine wp_cond_false rfl ?_
            refine wp_skip ?_
            refine hK18.out _ _ ?_
            (try clear hK18 K18)
            refine wk_reg ?_
            iterate 2 (refine pl_take (v := ?_) rfl ?_ ?_; rotate_left; (· (go_simp; first | done | with_reducible rfl | rfl | omega | assumption | (simp; omega))); (try simp only [Act.put, aP, aZ, aS]))
            refine pl_done ?_
            refine hK10.out _ _ ?_
            (try clear hK10 K10)
            refine wk_reg ?_
            iterate 3 (refine pl_take (v := ?_) rfl ?_ ?_; rotate_left; (· (go_simp; first | done | with_reducible rfl | rfl | omega | assumption | (simp; omega))); (try simp only [Act.put, aP, aZ, aS]))
            refine pl_done ?_
            (try dsimp only [Exit.inBlock, Exit.then])
            refine (by assumption : ∀ a' w', Handed _ _ a' w' → _) _ _ ?_
            go_roundg (gk - 1)
            case measure => omega
            case rel => first | exact ⟨i + 1, p96, M', M2, rfl, by go_num, by omega, by omega, Hbk, (by assumption : Sat w0 _ _).pick (by (repeat (first | exact Pick.nil _ | exact Pick.tail _ | exact Out.here _ | apply Out.there | apply Pick.cons | apply Pick.drop)))⟩ | exact ⟨i + 1, q, M', N', rfl, by go_num, by omega, by omega, Hal2, (by assumption : Sat w0 _ _).pick (by (repeat (first | exact Pick.nil _ | exact Pick.tail _ | exact Out.here _ | apply Out.there | apply Pick.cons | apply Pick.drop)))⟩
          · refine pl_take (v := .bool false) rfl ?_ ?_
            · (go_simp; first | done | with_reducible rfl | rfl | omega | assumption | (simp; omega))
            (try simp only [Act.put, aP, aZ, aS])
            refine pl_done ?_
            refine hK16.out _ _ ?_
            (try clear hK16 K16)
            refine wp_cond_false rfl ?_
            refine wp_skip ?_
            refine hK10.out _ _ ?_
            (try clear hK10 K10)
            refine wk_reg ?_
            iterate 3 (refine pl_take (v := ?_) rfl ?_ ?_; rotate_left; (· (go_simp; first | done | with_reducible rfl | rfl | omega | assumption | (simp; omega))); (try simp only [Act.put, aP, aZ, aS]))
            refine pl_done ?_
            (try dsimp only [Exit.inBlock, Exit.then])
            refine (by assumption : ∀ a' w', Handed _ _ a' w' → _) _ _ ?_
            go_roundg (gk - 1)
            case measure => omega
            case rel => first | exact ⟨i + 1, p96, M', M2, rfl, by go_num, by omega, by omega, Hbk, (by assumption : Sat w0 _ _).pick (by (repeat (first | exact Pick.nil _ | exact Pick.tail _ | exact Out.here _ | apply Out.there | apply Pick.cons | apply Pick.drop)))⟩ | exact ⟨i + 1, q, M', N', rfl, by go_num, by omega, by omega, Hal2, (by assumption : Sat w0 _ _).pick (by (repeat (first | exact Pick.nil _ | exact Pick.tail _ | exact Out.here _ | apply Out.there | apply Pick.cons | apply Pick.drop)))⟩
    · obtain rfl : i = xs.length := by omega
      have hsv := fun (w : World) (L' : List HP) (hs : Sat w0 w (MR p17 M :: L')) => saveMR_spec Hal.out.gm (by have := Hal.out.len; omega) hs
      have hsw := fun (w : World) (L' : List HP) (hs : Sat w0 w (MR q N :: L')) => saveMR_spec Hal.out.gn (by have := Hal.out.len; rw [← Hal.out.eqv.l]; omega) hs
      rw [← save_eqv Hal.out.eqv Hal.out.gm.nod] at hsw
      obtain ⟨sv, hsv2⟩ : ∃ z, M.save = z := ⟨_, rfl⟩
      rw [hsv2] at hsv hsw
      clear hsv2
      refine wk_seq (fun K8 hK8 => ?_)
      refine wk_seq (fun K9 hK9 => ?_)
      refine wk_reg ?_
      iterate 3 (refine pl_take (v := ?_) rfl ?_ ?_; rotate_left; (· (go_simp; first | done | with_reducible rfl | rfl | omega | assumption | (simp; omega))); (try simp only [Act.put, aP, aZ, aS]))
      refine pl_take (v := .bool false) rfl ?_ ?_
      · (go_simp; first | done | with_reducible rfl | rfl | omega | assumption | (simp; omega))
      (try simp only [Act.put, aP, aZ, aS])
      refine pl_done ?_
      refine hK9.out _ _ ?_
      (try clear hK9 K9)
      refine wp_cond_false rfl ?_
      refine wp_exit ?_
      refine hK6.out _ _ ?_
      (try clear hK6 K6)
      refine wk_seq (fun K21 hK21 => ?_)
      refine rg_start rfl (by assumption) (fun wr17 hsr17 => ?_)
      refine rg_take (i := 0) (v := ?_) rfl (by kernel_rfl) (by kernel_rfl) (by kernel_rfl) (fun _ _ _ h => h) rfl (by assumption) ?_ ?_
      rotate_left
      · intro w hSw; (go_simp; first | done | with_reducible rfl | rfl | omega | assumption | (simp; omega))
      (try simp only [Act.put, aP, aZ, aS])
      refine rg_take (i := 3) (v := ?_) rfl (by kernel_rfl) (by kernel_rfl) (by kernel_rfl) (fun _ _ _ h => h) rfl (by assumption) ?_ ?_
      rotate_left
      · intro w hSw; (go_simp; first | done | with_reducible rfl | rfl | omega | assumption | (simp; omega))
      (try simp only [Act.put, aP, aZ, aS])
      refine rg_one (i := 1) (by kernel_rfl) rfl rfl (fun Kp hKp => ?_)
      go_simp
      (refine (hsv _ _ ((by assumption : Sat w0 _ _).pick (.cons (by (repeat (first | with_reducible exact Out.here _ | apply Out.there))) (.tail _)))).mono ?_; rintro e108 w108 ⟨Y108, c108, rfl, hs108⟩)
      (try go_wp2_with fail)
      refine rg_back (hK := hKp) ?_ (fun hsk108 => ?_)
      · (first | assumption | (apply Sat.drew; assumption) | (apply Sat.pick; assumption; (repeat (first | exact Pick.nil _ | with_reducible exact Pick.tail _ | with_reducible exact Out.here _ | apply Out.there | apply Pick.cons | apply Pick.drop))))
      clear hKp Kp
      have hsz108 := hs108
      refine rg_more (L' := _) (Sat.pickOf hs108 (by (repeat (first | exact Pick.nil _ | with_reducible exact Pick.tail _ | with_reducible exact Out.here _ | apply Out.there | apply Pick.cons | apply Pick.drop)))) ?_
      (try simp only [Act.put, aP, aZ, aS])
      refine rg_take (i := 2) (v := ?_) rfl (by kernel_rfl) (by kernel_rfl) (by kernel_rfl) (fun _ _ _ h => h) rfl (by assumption) ?_ ?_
      rotate_left
      · intro w hSw; (first | ((with_reducible apply yl_b2s); assumption; rfl; (repeat (first | with_reducible assumption | with_reducible exact Rd.own | with_reducible exact Rd.nil | with_reducible apply Rd.cons)); rfl) | (go_simp; first | done | with_reducible rfl | rfl | omega | assumption | (simp; omega)))
      (try simp only [Act.put, aP, aZ, aS])
      refine rg_one (i := 4) (by kernel_rfl) rfl rfl (fun Kp hKp => ?_)
      go_simp
      (refine (hsw _ _ ((by assumption : Sat w0 _ _).pick (.cons (by (repeat (first | with_reducible exact Out.here _ | apply Out.there))) (.tail _)))).mono ?_; rintro e111 w111 ⟨Y111, c111, rfl, hs111⟩)
      (try go_wp2_with fail)
      refine rg_back (hK := hKp) ?_ (fun hsk111 => ?_)
      · (first | assumption | (apply Sat.drew; assumption) | (apply Sat.pick; assumption; (repeat (first | exact Pick.nil _ | with_reducible exact Pick.tail _ | with_reducible exact Out.here _ | apply Out.there | apply Pick.cons | apply Pick.drop))))
      clear hKp Kp
      have hsz111 := hs111
      refine rg_more (L' := _) (Sat.pickOf hs111 (by (repeat (first | exact Pick.nil _ | with_reducible exact Pick.tail _ | with_reducible exact Out.here _ | apply Out.there | apply Pick.cons | apply Pick.drop)))) ?_
      (try simp only [Act.put, aP, aZ, aS])
      refine rg_take (i := 5) (v := ?_) rfl (by kernel_rfl) (by kernel_rfl) (by kernel_rfl) (fun _ _ _ h => h) rfl (by assumption) ?_ ?_
      rotate_left
      · intro w hSw; (first | ((with_reducible apply yl_b2s); assumption; rfl; (repeat (first | with_reducible assumption | with_reducible exact Rd.own | with_reducible exact Rd.nil | with_reducible apply Rd.cons)); rfl) | (go_simp; first | done | with_reducible rfl | rfl | omega | assumption | (simp; omega)))
      (try simp only [Act.put, aP, aZ, aS])
      refine rg_take (i := 6) (v := .bool true) rfl (by kernel_rfl) (by kernel_rfl) (by kernel_rfl) (fun _ _ _ h => h) rfl (by assumption) ?_ ?_
      · intro w hSw; (go_simp; first | done | with_reducible rfl | rfl | omega | assumption | (simp; omega))
      (try simp only [Act.put, aP, aZ, aS])
      refine rg_take (i := 7) (v := .bool true) rfl (by kernel_rfl) (by kernel_rfl) (by kernel_rfl) (fun _ _ _ h => h) rfl (by assumption) ?_ ?_
      · intro w hSw; (go_simp; first | done | with_reducible rfl | rfl | omega | assumption | (simp; omega))
      (try simp only [Act.put, aP, aZ, aS])
      refine rg_done (by kernel_rfl) ?_
      refine hK21.out _ _ ?_
      (try clear hK21 K21)
      refine wp_ret ?_
      go_ret
      exact ⟨rfl, (by assumption : Sat w0 _ _).pick (by (repeat (first | exact Pick.nil _ | exact Pick.tail _ | exact Out.here _ | apply Out.there | apply Pick.cons | apply Pick.drop)))⟩
end Go.Proofs.Ytdlimjcidblneaa
