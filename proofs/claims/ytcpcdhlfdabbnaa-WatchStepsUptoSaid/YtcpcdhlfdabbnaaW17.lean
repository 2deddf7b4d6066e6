/-
  WatchMade: pieces of one log; the walk.
-/
import Derived.Test.YtcpcdhlfdabbnaaWk
import Derived.Test.YtcpcdhlfdabbnaaW9
import Derived.Test.YtcpcdhlfdabbnaaW12
import Derived.Test.YtcpcdhlfdabbnaaW11
namespace Go.Proofs.Ytcpcdhlfdabbnaa
open Go Go.RowKit Sl Go.Shelf Go.Deep
set_option maxHeartbeats 20000000
set_option maxRecDepth 8000

theorem rowOk_ix : ∀ {l : List Ent} {b t : Int} {k : Nat} {x : Ent}, rowOk b t l = true → l[k]? = some x → x.i = b + k + 1
  | [], _, _, _, _, _, h => by simp at h
  | y :: l, b, t, 0, x, h, hx => by
    simp only [rowOk, Bool.and_eq_true, decide_eq_true_eq] at h
    simp at hx; subst hx
    have := h.1.1.2; omega
  | y :: l, b, t, k + 1, x, h, hx => by
    simp only [rowOk, Bool.and_eq_true, decide_eq_true_eq] at h
    have := rowOk_ix (k := k) h.2 (by simpa using hx)
    omega

theorem wholeV_or (v : Vw) : wholeV v = v ∨ wholeV v = ⟨0, 0, []⟩ := by
  unfold wholeV; split
  · exact .inl rfl
  · exact .inr rfl

theorem alike_self (x : Ent) : alike x x = true := by simp [alike]

theorem pieces0 (b t t2 : Int) (l : List Ent) (i k : Nat) (lim : Int) : bothW stepD (wholeV ⟨b, t, l.take i⟩) (wholeV ⟨b + k, t2, l.drop k⟩) lim 0 = 0 := by
  unfold bothW
  refine runW_same ?_ _ _ _ (by unfold lo; omega) (by unfold lo; omega)
  intro j x y hx hy h1 h2
  rcases wholeV_or ⟨b, t, l.take i⟩ with ha | ha
  · rcases wholeV_or ⟨b + k, t2, l.drop k⟩ with hb | hb
    · rw [ha] at hx h1
      rw [hb] at hy h2
      simp only at hx hy h1 h2
      rw [List.getElem?_take] at hx
      split at hx
      · rw [List.getElem?_drop, show k + (j - (b + k) - 1).toNat = (j - b - 1).toNat from by omega, hx] at hy
        cases hy
        exact alike_self x
      · cases hx
    · rw [hb] at hy; simp at hy
  · rw [ha] at hx; simp at hx

theorem tmodN_bound (x N : Int) (hN : 0 < N) : -N < x.tmod N ∧ x.tmod N < N := by
  rcases Int.le_total 0 x with h | h
  · rw [Int.tmod_eq_emod_of_nonneg h]
    have := Int.emod_nonneg x (by omega : N ≠ 0)
    have := Int.emod_lt_of_pos x hN
    omega
  · rw [show x = -(-x) from by omega, Int.neg_tmod, Int.tmod_eq_emod_of_nonneg (by omega)]
    have := Int.emod_nonneg (-x) (by omega : N ≠ 0)
    have := Int.emod_lt_of_pos (-x) hN
    omega
theorem tmodN_pos {x N : Int} (h : 0 ≤ x) (hN : 0 < N) : 0 ≤ x.tmod N ∧ x.tmod N < N := by
  rw [Int.tmod_eq_emod_of_nonneg h]; exact ⟨Int.emod_nonneg x (by omega : N ≠ 0), Int.emod_lt_of_pos x hN⟩

theorem watchMade_walk {w0 w : World} {L : List HP} {A : Option Addr} {ca : Nat} (ab at_ : Int) (al : List Ent) (fi fk cm : Int) (hcap : al.length ≤ ca)
    (hal : al.length ≤ 1048576) (hda : ∀ x ∈ al, x.d.length ≤ 1048576) (hs : Sat w0 w L)
    (hE : SlV EntV 4 (Rd w0 L) [.slice A al.length ca] al) :
    Calls Try.prog 5 #[.agg #[.int .i64 ab, .int .i64 at_, .slice A al.length ca], .int .i64 fi, .int .i64 fk, .int .i64 cm] w (RetB w0 L true) := by
  have h64a := ents_in hE
  have hR := fun (w : World) (L' : List HP) (hs : Sat w0 w L') (h : SlV EntV 4 (Rd w0 L') [.slice A al.length ca] al) => refRightW_spec (w := w) (c := ca) ab at_ al hal hda hs h
  cases hr : rightV ⟨ab, at_, al⟩ with
  | false =>
    rw [hr] at hR
    go_enter Try.func5, Try.ntmps5
    refine wk_seq (fun K0 hK0 => ?_)
    refine wk_reg ?_
    refine pl_eff rfl (fun Kp hKp => ?_)
    ((with_reducible apply st_box); assumption; (go_simp; rfl); intro b4 w4 hs4; simp only [Value.cells] at hs4)
    refine hKp.out _ _ ?_
    clear hKp Kp
    (try simp only [Act.put, aP, aZ, aS])
    refine pl_take (v := .bool false) rfl ?_ ?_
    · (go_simp; first | done | with_reducible rfl | rfl | omega | assumption | (simp; omega))
    (try simp only [Act.put, aP, aZ, aS])
    refine pl_done ?_
    refine hK0.out _ _ ?_
    (try clear hK0 K0)
    refine wk_seq (fun K1 hK1 => ?_)
    refine wk_seq (fun K2 hK2 => ?_)
    refine wk_reg ?_
    refine pl_take (v := ?_) rfl ?_ ?_
    rotate_left
    · (first | ((with_reducible apply yl_loadAgg); assumption; rfl; (repeat (first | with_reducible exact Out.here _ | apply Out.there)); (simp); rfl; rfl) | ((with_reducible apply yl_loadAggR); assumption; rfl; (repeat (first | with_reducible assumption | with_reducible exact Rd.own | with_reducible exact Rd.nil | with_reducible apply Rd.cons)); rfl))
    (try simp only [Act.put, aP, aZ, aS])
    refine pl_eff rfl (fun Kp hKp => ?_)
    go_simp
    (refine (hR _ _ (by assumption) ((SlV.mono EntV.mono).pick (by (repeat (first | exact Pick.nil _ | exact Pick.tail _ | exact Out.here _ | apply Out.there | apply Pick.cons | apply Pick.drop))) hE)).mono ?_; rintro e12 w12 ⟨rfl, hs12⟩)
    (try go_wp2_with fail)
    refine hKp.out _ _ ?_
    clear hKp Kp
    (try simp only [Act.put, aP, aZ, aS])
    iterate 2 (refine pl_take (v := .bool true) rfl ?_ ?_; (· (go_simp; first | done | with_reducible rfl | rfl | omega | assumption | (simp; omega))); (try simp only [Act.put, aP, aZ, aS]))
    iterate 4 (refine pl_skip (by kernel_rfl) ?_; (try simp only [Act.put, aP, aZ, aS]))
    refine pl_take (v := .bool true) rfl ?_ ?_
    · (go_simp; first | done | with_reducible rfl | rfl | omega | assumption | (simp; omega))
    (try simp only [Act.put, aP, aZ, aS])
    refine pl_done ?_
    refine hK2.out _ _ ?_
    (try clear hK2 K2)
    refine wp_cond_true rfl ?_
    refine wk_seq (fun K3 hK3 => ?_)
    refine wk_reg ?_
    refine pl_eff rfl (fun Kp hKp => ?_)
    go_simp
    (refine (knows20_spec (by assumption)).mono ?_; rintro e20 w20 ⟨rfl, hs20⟩)
    (try go_wp2_with fail)
    refine hKp.out _ _ ?_
    clear hKp Kp
    (try simp only [Act.put, aP, aZ, aS])
    refine pl_take (v := ?_) rfl ?_ ?_
    rotate_left
    · (go_simp; first | done | with_reducible rfl | rfl | omega | assumption | (simp; omega))
    (try simp only [Act.put, aP, aZ, aS])
    refine pl_done ?_
    refine hK3.out _ _ ?_
    (try clear hK3 K3)
    refine wp_ret ?_
    go_ret
    exact ⟨rfl, (by assumption : Sat w0 _ _).pick (by (repeat (first | exact Pick.nil _ | exact Pick.tail _ | exact Out.here _ | apply Out.there | apply Pick.cons | apply Pick.drop)))⟩
  | true =>
    rw [hr] at hR
    have hok : rowOk ab at_ al = true := by unfold rightV at hr; simp only [Bool.and_eq_true] at hr; exact hr.2
    clear hr
    by_cases hz : al.length = 0
    · have hz' : ((al.length : Int) == 0) = true := by simp [hz]
      clear hz
      go_enter Try.func5, Try.ntmps5
      refine wk_seq (fun K0 hK0 => ?_)
      refine wk_reg ?_
      refine pl_eff rfl (fun Kp hKp => ?_)
      ((with_reducible apply st_box); assumption; (go_simp; rfl); intro b4 w4 hs4; simp only [Value.cells] at hs4)
      refine hKp.out _ _ ?_
      clear hKp Kp
      (try simp only [Act.put, aP, aZ, aS])
      refine pl_take (v := .bool false) rfl ?_ ?_
      · (go_simp; first | done | with_reducible rfl | rfl | omega | assumption | (simp; omega))
      (try simp only [Act.put, aP, aZ, aS])
      refine pl_done ?_
      refine hK0.out _ _ ?_
      (try clear hK0 K0)
      refine wk_seq (fun K1 hK1 => ?_)
      refine wk_seq (fun K2 hK2 => ?_)
      refine wk_reg ?_
      refine pl_take (v := ?_) rfl ?_ ?_
      rotate_left
      · (first | ((with_reducible apply yl_loadAgg); assumption; rfl; (repeat (first | with_reducible exact Out.here _ | apply Out.there)); (simp); rfl; rfl) | ((with_reducible apply yl_loadAggR); assumption; rfl; (repeat (first | with_reducible assumption | with_reducible exact Rd.own | with_reducible exact Rd.nil | with_reducible apply Rd.cons)); rfl))
      (try simp only [Act.put, aP, aZ, aS])
      refine pl_eff rfl (fun Kp hKp => ?_)
      go_simp
      (refine (hR _ _ (by assumption) ((SlV.mono EntV.mono).pick (by (repeat (first | exact Pick.nil _ | exact Pick.tail _ | exact Out.here _ | apply Out.there | apply Pick.cons | apply Pick.drop))) hE)).mono ?_; rintro e12 w12 ⟨rfl, hs12⟩)
      (try go_wp2_with fail)
      refine hKp.out _ _ ?_
      clear hKp Kp
      (try simp only [Act.put, aP, aZ, aS])
      iterate 2 (refine pl_take (v := .bool false) rfl ?_ ?_; (· (go_simp; first | done | with_reducible rfl | rfl | omega | assumption | (simp; omega))); (try simp only [Act.put, aP, aZ, aS]))
      iterate 3 (refine pl_take (v := ?_) (by kernel_rfl) ?_ ?_; rotate_left; (· (first | ((with_reducible apply yl_load); assumption; rfl; (repeat (first | with_reducible assumption | ((with_reducible apply Cl.own); exact rfl) | ((with_reducible apply Cl.blkL); exact rfl) | with_reducible apply Cl.cons)); rfl) | (go_simp; first | done | with_reducible rfl | rfl | omega | assumption | (simp; omega)))); (try simp only [Act.put, aP, aZ, aS]))
      refine pl_take (v := .bool true) (by kernel_rfl) ?_ ?_
      · (go_simp; first | done | with_reducible rfl | rfl | omega | assumption | (simp; omega))
      (try simp only [Act.put, aP, aZ, aS])
      refine pl_take (v := .bool true) rfl ?_ ?_
      · (go_simp; first | done | with_reducible rfl | rfl | omega | assumption | (simp; omega))
      (try simp only [Act.put, aP, aZ, aS])
      refine pl_done ?_
      refine hK2.out _ _ ?_
      (try clear hK2 K2)
      refine wp_cond_true rfl ?_
      refine wk_seq (fun K3 hK3 => ?_)
      refine wk_reg ?_
      refine pl_eff rfl (fun Kp hKp => ?_)
      go_simp
      (refine (knows20_spec (by assumption)).mono ?_; rintro e20 w20 ⟨rfl, hs20⟩)
      (try go_wp2_with fail)
      refine hKp.out _ _ ?_
      clear hKp Kp
      (try simp only [Act.put, aP, aZ, aS])
      refine pl_take (v := ?_) rfl ?_ ?_
      rotate_left
      · (go_simp; first | done | with_reducible rfl | rfl | omega | assumption | (simp; omega))
      (try simp only [Act.put, aP, aZ, aS])
      refine pl_done ?_
      refine hK3.out _ _ ?_
      (try clear hK3 K3)
      refine wp_ret ?_
      go_ret
      exact ⟨rfl, (by assumption : Sat w0 _ _).pick (by (repeat (first | exact Pick.nil _ | exact Pick.tail _ | exact Out.here _ | apply Out.there | apply Pick.cons | apply Pick.drop)))⟩
    · have hz' : ((al.length : Int) == 0) = false := by simp; intro h; exact hz (by simp [h])
      obtain ⟨n, hn⟩ : ∃ n : Int, (al.length : Int) = n := ⟨_, rfl⟩
      have hn1 : 0 < n ∧ n ≤ 1048576 := by omega
      have t1 := tmodN_bound fi (n + 1) (by omega)
      have t2 := tmodN_bound fk (n + 1) (by omega)
      obtain ⟨r1, hr1⟩ : ∃ r, Int.tmod fi (n + 1) = r := ⟨_, rfl⟩
      obtain ⟨r2, hr2⟩ : ∃ r, Int.tmod fk (n + 1) = r := ⟨_, rfl⟩
      rw [hr1] at t1
      rw [hr2] at t2
      have t3 := tmodN_pos (x := r1 + n + 1) (N := n + 1) (by omega) (by omega)
      have t4 := tmodN_pos (x := r2 + n + 1) (N := n + 1) (by omega) (by omega)
      obtain ⟨f, hf⟩ : ∃ r, Int.tmod (r1 + n + 1) (n + 1) = r := ⟨_, rfl⟩
      obtain ⟨o, ho⟩ : ∃ r, Int.tmod (r2 + n + 1) (n + 1) = r := ⟨_, rfl⟩
      rw [hf] at t3
      rw [ho] at t4
      have hq : ¬ (n + 1 = 0) := by omega
      have u0 : IntKind.i64.wrap (n + 1) = n + 1 := IntWalk.i64_in _ (by omega)
      have u1 : IntKind.i64.wrap (r1 + n) = r1 + n := IntWalk.i64_in _ (by omega)
      have u2 : IntKind.i64.wrap (r2 + n) = r2 + n := IntWalk.i64_in _ (by omega)
      have u1' : IntKind.i64.wrap (r1 + n + 1) = r1 + n + 1 := IntWalk.i64_in _ (by omega)
      have u2' : IntKind.i64.wrap (r2 + n + 1) = r2 + n + 1 := IntWalk.i64_in _ (by omega)
      have u3 : IntKind.i64.wrap r1 = r1 := IntWalk.i64_in _ (by omega)
      have u4 : IntKind.i64.wrap r2 = r2 := IntWalk.i64_in _ (by omega)
      have u5 : IntKind.i64.wrap f = f := IntWalk.i64_in _ (by omega)
      have u6 : IntKind.i64.wrap o = o := IntWalk.i64_in _ (by omega)
      obtain ⟨ki, rfl⟩ : ∃ k : Nat, f = k := ⟨f.toNat, by omega⟩
      obtain ⟨kk, rfl⟩ : ∃ k : Nat, o = k := ⟨o.toNat, by omega⟩
      obtain ⟨pl, hpl⟩ : ∃ l, al.take ki = l := ⟨_, rfl⟩
      obtain ⟨dl, hdl⟩ : ∃ l, al.drop kk = l := ⟨_, rfl⟩
      have Hpn : Hid (pl.length = ki) := by unfold Hid; rw [← hpl]; simp; omega
      have Hdn : Hid (dl.length = al.length - kk) := by unfold Hid; rw [← hdl]; simp
      have hpd : ∀ x ∈ pl, x.d.length ≤ 1048576 := fun x hx => hda x (by rw [← hpl] at hx; exact List.mem_of_mem_take hx)
      have hdd : ∀ x ∈ dl, x.d.length ≤ 1048576 := fun x hx => hda x (by rw [← hdl] at hx; exact List.mem_of_mem_drop hx)
      have h64p : ∀ x ∈ pl, In64 x.t ∧ In64 x.i ∧ In64 x.k := fun x hx => h64a x (by rw [← hpl] at hx; exact List.mem_of_mem_take hx)
      obtain ⟨PA, hPA⟩ : ∃ B, (if ca = 0 then A else A.map (·.add (0 * 4))) = B := ⟨_, rfl⟩
      have hEp : SlV EntV 4 (Rd w0 L) [.slice PA pl.length ca] pl := by rw [← hpl, ← hPA]; exact SlV.take ki (by omega) hcap rfl hE
      have HPA := Hid.mk' hPA
      clear hPA
      have hpl1 : pl.length ≤ 1048576 := by rw [Hpn.out]; omega
      have hdl1 : dl.length ≤ 1048576 := by rw [Hdn.out]; omega
      have hm : ∀ (b2 t2 : Int), b2 = ab + kk → ∀ (w : World) (L' : List HP) (A B : Option Addr) (ca cb : Nat), Sat w0 w L' → SlV EntV 4 (Rd w0 L') [.slice A pl.length ca] pl → SlV EntV 4 (Rd w0 L') [.slice B dl.length cb] dl →
          Calls Try.prog 14 #[.agg #[.int .i64 ab, .int .i64 at_, .slice A pl.length ca], .agg #[.int .i64 b2, .int .i64 t2, .slice B dl.length cb]] w (fun e w' => e = .returned (.int .i64 0) ∧ Sat w0 w' L') := fun b2 t2 e w L' A B ca cb hs h1 h2 => by
        have := match_spec (ca := ca) (cb := cb) ab at_ pl b2 t2 dl hpl1 hpd hdl1 hdd hs h1 h2
        rwa [show matchV ⟨ab, at_, pl⟩ ⟨b2, t2, dl⟩ = 0 from by rw [e, ← hpl, ← hdl]; exact pieces0 _ _ _ _ _ _ _] at this
      have hg : ∀ (b2 t2 : Int), b2 = ab + kk → ∀ (w : World) (L' : List HP) (A B : Option Addr) (ca cb : Nat), Sat w0 w L' → SlV EntV 4 (Rd w0 L') [.slice A pl.length ca] pl → SlV EntV 4 (Rd w0 L') [.slice B dl.length cb] dl →
          Calls Try.prog 16 #[.agg #[.int .i64 1, .int .i64 0, .int .i64 cm, .bool false, .int .i64 ab, .int .i64 at_, .slice A pl.length ca], .agg #[.int .i64 2, .int .i64 0, .int .i64 cm, .bool false, .int .i64 b2, .int .i64 t2, .slice B dl.length cb]] w (fun e w' => e = .returned (.int .i64 0) ∧ Sat w0 w' L') := fun b2 t2 e w L' A B ca cb hs h1 h2 => by
        have := agree_spec (ca := ca) (cb := cb) 1 0 cm false ab at_ pl 2 0 cm false b2 t2 dl hpl1 hpd hdl1 hdd hs h1 h2
        rwa [show agreeV ⟨ab, at_, pl⟩ cm ⟨b2, t2, dl⟩ cm = 0 from by rw [e, ← hpl, ← hdl]; exact pieces0 _ _ _ _ _ _ _] at this
      have Hdl := Hid.mk' hdl
      clear hpl hdl
      have Hn := Hid.mk' hn
      clear hz
      go_enter Try.func5, Try.ntmps5
      refine wk_seq (fun K0 hK0 => ?_)
      refine wk_reg ?_
      refine pl_eff rfl (fun Kp hKp => ?_)
      ((with_reducible apply st_box); assumption; (go_simp; rfl); intro b4 w4 hs4; simp only [Value.cells] at hs4)
      refine hKp.out _ _ ?_
      clear hKp Kp
      (try simp only [Act.put, aP, aZ, aS])
      refine pl_take (v := .bool false) rfl ?_ ?_
      · (go_simp; first | done | with_reducible rfl | rfl | omega | assumption | (simp; omega))
      (try simp only [Act.put, aP, aZ, aS])
      refine pl_done ?_
      refine hK0.out _ _ ?_
      (try clear hK0 K0)
      refine wk_seq (fun K1 hK1 => ?_)
      refine wk_seq (fun K2 hK2 => ?_)
      refine wk_reg ?_
      refine pl_take (v := ?_) rfl ?_ ?_
      rotate_left
      · (first | ((with_reducible apply yl_loadAgg); assumption; rfl; (repeat (first | with_reducible exact Out.here _ | apply Out.there)); (simp); rfl; rfl) | ((with_reducible apply yl_loadAggR); assumption; rfl; (repeat (first | with_reducible assumption | with_reducible exact Rd.own | with_reducible exact Rd.nil | with_reducible apply Rd.cons)); rfl))
      (try simp only [Act.put, aP, aZ, aS])
      refine pl_eff rfl (fun Kp hKp => ?_)
      go_simp
      (refine (hR _ _ (by assumption) ((SlV.mono EntV.mono).pick (by (repeat (first | exact Pick.nil _ | exact Pick.tail _ | exact Out.here _ | apply Out.there | apply Pick.cons | apply Pick.drop))) hE)).mono ?_; rintro e12 w12 ⟨rfl, hs12⟩)
      (try go_wp2_with fail)
      refine hKp.out _ _ ?_
      clear hKp Kp
      (try simp only [Act.put, aP, aZ, aS])
      iterate 2 (refine pl_take (v := .bool false) rfl ?_ ?_; (· (go_simp; first | done | with_reducible rfl | rfl | omega | assumption | (simp; omega))); (try simp only [Act.put, aP, aZ, aS]))
      iterate 3 (refine pl_take (v := ?_) (by kernel_rfl) ?_ ?_; rotate_left; (· (first | ((with_reducible apply yl_load); assumption; rfl; (repeat (first | with_reducible assumption | ((with_reducible apply Cl.own); exact rfl) | ((with_reducible apply Cl.blkL); exact rfl) | with_reducible apply Cl.cons)); rfl) | (go_simp; first | done | with_reducible rfl | rfl | omega | assumption | (simp; omega)))); (try simp only [Act.put, aP, aZ, aS]))
      refine pl_take (v := .bool false) (by kernel_rfl) ?_ ?_
      · (go_simp; first | done | with_reducible rfl | rfl | omega | assumption | (simp; omega))
      (try simp only [Act.put, aP, aZ, aS])
      refine pl_take (v := .bool false) rfl ?_ ?_
      · (go_simp; first | done | with_reducible rfl | rfl | omega | assumption | (simp; omega))
      (try simp only [Act.put, aP, aZ, aS])
      refine pl_done ?_
      refine hK2.out _ _ ?_
      (try clear hK2 K2)
      refine wp_cond_false rfl ?_
      refine wp_skip ?_
      refine hK1.out _ _ ?_
      (try clear hK1 K1)
      refine wk_seq (fun K4 hK4 => ?_)
      refine rg_start rfl (by assumption) (fun wr3 hsr3 => ?_)
      refine rg_take (i := 0) (v := ?_) rfl (by kernel_rfl) (by kernel_rfl) (by kernel_rfl) (fun _ _ _ h => h) rfl (by assumption) ?_ ?_
      rotate_left
      · intro w hSw; (go_simp; first | done | with_reducible rfl | rfl | omega | assumption | (simp; omega))
      (try simp only [Act.put, aP, aZ, aS])
      refine rg_take (i := 1) (v := ?_) rfl (by kernel_rfl) (by kernel_rfl) (by kernel_rfl) (fun _ _ _ h => h) rfl (by assumption) ?_ ?_
      rotate_left
      · intro w hSw; (go_simp; first | done | with_reducible rfl | rfl | omega | assumption | (simp; omega))
      (try simp only [Act.put, aP, aZ, aS])
      refine rg_take (i := 2) (v := ?_) rfl (by kernel_rfl) (by kernel_rfl) (by kernel_rfl) (fun _ _ _ h => h) rfl (by assumption) ?_ ?_
      rotate_left
      · intro w hSw; ((with_reducible apply yl_load); assumption; rfl; (repeat (first | with_reducible assumption | ((with_reducible apply Cl.own); exact rfl) | ((with_reducible apply Cl.blkL); exact rfl) | with_reducible apply Cl.cons)); rfl)
      (try simp only [Act.put, aP, aZ, aS])
      refine rg_take (i := 3) (v := ?_) rfl (by kernel_rfl) (by kernel_rfl) (by kernel_rfl) (fun _ _ _ h => h) rfl (by assumption) ?_ ?_
      rotate_left
      · intro w hSw; (go_simp; first | done | with_reducible rfl | rfl | omega | assumption | (simp; omega))
      (try simp only [Act.put, aP, aZ, aS])
      refine rg_take (i := 4) (v := ?_) rfl (by kernel_rfl) (by kernel_rfl) (by kernel_rfl) (fun _ _ _ h => h) rfl (by assumption) ?_ ?_
      rotate_left
      · intro w hSw; (go_simp; first | done | with_reducible rfl | rfl | omega | assumption | (simp; omega))
      (try simp only [Act.put, aP, aZ, aS])
      refine rg_take (i := 5) (v := ?_) rfl (by kernel_rfl) (by kernel_rfl) (by kernel_rfl) (fun _ _ _ h => h) rfl (by assumption) ?_ ?_
      rotate_left
      · intro w hSw; (go_simp; first | done | with_reducible rfl | rfl | omega | assumption | (simp; omega))
      (try simp only [Act.put, aP, aZ, aS])
      refine rg_take (i := 6) (v := ?_) rfl (by kernel_rfl) (by kernel_rfl) (by kernel_rfl) (fun _ _ _ h => h) rfl (by assumption) ?_ ?_
      rotate_left
      · intro w hSw; (go_simp; first | done | with_reducible rfl | rfl | omega | assumption | (simp; omega))
      (try simp only [Act.put, aP, aZ, aS])
      refine rg_take (i := 7) (v := ?_) rfl (by kernel_rfl) (by kernel_rfl) (by kernel_rfl) (fun _ _ _ h => h) rfl (by assumption) ?_ ?_
      rotate_left
      · intro w hSw; ((with_reducible apply yl_load); assumption; rfl; (repeat (first | with_reducible assumption | ((with_reducible apply Cl.own); exact rfl) | ((with_reducible apply Cl.blkL); exact rfl) | with_reducible apply Cl.cons)); rfl)
      (try simp only [Act.put, aP, aZ, aS])
      refine rg_take (i := 8) (v := ?_) rfl (by kernel_rfl) (by kernel_rfl) (by kernel_rfl) (fun _ _ _ h => h) rfl (by assumption) ?_ ?_
      rotate_left
      · intro w hSw; (go_simp; first | done | with_reducible rfl | rfl | omega | assumption | (simp; omega))
      (try simp only [Act.put, aP, aZ, aS])
      refine rg_take (i := 9) (v := ?_) rfl (by kernel_rfl) (by kernel_rfl) (by kernel_rfl) (fun _ _ _ h => h) rfl (by assumption) ?_ ?_
      rotate_left
      · intro w hSw; (go_simp; first | done | with_reducible rfl | rfl | omega | assumption | (simp; omega))
      (try simp only [Act.put, aP, aZ, aS])
      refine rg_take (i := 10) (v := ?_) rfl (by kernel_rfl) (by kernel_rfl) (by kernel_rfl) (fun _ _ _ h => h) rfl (by assumption) ?_ ?_
      rotate_left
      · intro w hSw; (go_simp; first | done | with_reducible rfl | rfl | omega | assumption | (simp; omega))
      (try simp only [Act.put, aP, aZ, aS])
      refine rg_take (i := 11) (v := ?_) rfl (by kernel_rfl) (by kernel_rfl) (by kernel_rfl) (fun _ _ _ h => h) rfl (by assumption) ?_ ?_
      rotate_left
      · intro w hSw; (go_simp; first | done | with_reducible rfl | rfl | omega | assumption | (simp; omega))
      (try simp only [Act.put, aP, aZ, aS])
      refine rg_take (i := 12) (v := ?_) rfl (by kernel_rfl) (by kernel_rfl) (by kernel_rfl) (fun _ _ _ h => h) rfl (by assumption) ?_ ?_
      rotate_left
      · intro w hSw; ((with_reducible apply yl_load); assumption; rfl; (repeat (first | with_reducible assumption | ((with_reducible apply Cl.own); exact rfl) | ((with_reducible apply Cl.blkL); exact rfl) | with_reducible apply Cl.cons)); rfl)
      (try simp only [Act.put, aP, aZ, aS])
      refine rg_take (i := 13) (v := ?_) rfl (by kernel_rfl) (by kernel_rfl) (by kernel_rfl) (fun _ _ _ h => h) rfl (by assumption) ?_ ?_
      rotate_left
      · intro w hSw; (go_simp; first | done | with_reducible rfl | rfl | omega | assumption | (simp; omega))
      (try simp only [Act.put, aP, aZ, aS])
      refine rg_take (i := 14) (v := ?_) rfl (by kernel_rfl) (by kernel_rfl) (by kernel_rfl) (fun _ _ _ h => h) rfl (by assumption) ?_ ?_
      rotate_left
      · intro w hSw; (go_simp; first | done | with_reducible rfl | rfl | omega | assumption | (simp; omega))
      (try simp only [Act.put, aP, aZ, aS])
      refine rg_take (i := 15) (v := ?_) rfl (by kernel_rfl) (by kernel_rfl) (by kernel_rfl) (fun _ _ _ h => h) rfl (by assumption) ?_ ?_
      rotate_left
      · intro w hSw; (go_simp; first | done | with_reducible rfl | rfl | omega | assumption | (simp; omega))
      (try simp only [Act.put, aP, aZ, aS])
      refine rg_take (i := 16) (v := ?_) rfl (by kernel_rfl) (by kernel_rfl) (by kernel_rfl) (fun _ _ _ h => h) rfl (by assumption) ?_ ?_
      rotate_left
      · intro w hSw; (go_simp; first | done | with_reducible rfl | rfl | omega | assumption | (simp; omega))
      (try simp only [Act.put, aP, aZ, aS])
      refine rg_done (by kernel_rfl) ?_
      refine hK4.out _ _ ?_
      (try clear hK4 K4)
      refine wk_seq (fun K5 hK5 => ?_)
      refine rg_start rfl (by assumption) (fun wr4 hsr4 => ?_)
      refine rg_take (i := 0) (v := ?_) rfl (by kernel_rfl) (by kernel_rfl) (by kernel_rfl) (fun _ _ _ h => h) rfl (by assumption) ?_ ?_
      rotate_left
      · intro w hSw; (go_simp; first | done | with_reducible rfl | rfl | omega | assumption | (simp; omega))
      (try simp only [Act.put, aP, aZ, aS])
      refine rg_take (i := 1) (v := ?_) rfl (by kernel_rfl) (by kernel_rfl) (by kernel_rfl) (fun _ _ _ h => h) rfl (by assumption) ?_ ?_
      rotate_left
      · intro w hSw; (go_simp; first | done | with_reducible rfl | rfl | omega | assumption | (simp; omega))
      (try simp only [Act.put, aP, aZ, aS])
      refine rg_take (i := 2) (v := ?_) rfl (by kernel_rfl) (by kernel_rfl) (by kernel_rfl) (fun _ _ _ h => h) rfl (by assumption) ?_ ?_
      rotate_left
      · intro w hSw; ((with_reducible apply yl_load); assumption; rfl; (repeat (first | with_reducible assumption | ((with_reducible apply Cl.own); exact rfl) | ((with_reducible apply Cl.blkL); exact rfl) | with_reducible apply Cl.cons)); rfl)
      (try simp only [Act.put, aP, aZ, aS])
      refine rg_take (i := 3) (v := ?_) rfl (by kernel_rfl) (by kernel_rfl) (by kernel_rfl) (fun _ _ _ h => h) rfl (by assumption) ?_ ?_
      rotate_left
      · intro w hSw; (go_simp; first | done | with_reducible rfl | rfl | omega | assumption | (simp; omega))
      (try simp only [Act.put, aP, aZ, aS])
      refine rg_take (i := 4) (v := ?_) rfl (by kernel_rfl) (by kernel_rfl) (by kernel_rfl) (fun _ _ _ h => h) rfl (by assumption) ?_ ?_
      rotate_left
      · intro w hSw; (go_simp; first | done | with_reducible rfl | rfl | omega | assumption | (simp; omega))
      (try simp only [Act.put, aP, aZ, aS])
      refine rg_take (i := 5) (v := ?_) rfl (by kernel_rfl) (by kernel_rfl) (by kernel_rfl) (fun _ _ _ h => h) rfl (by assumption) ?_ ?_
      rotate_left
      · intro w hSw; (go_simp; first | done | with_reducible rfl | rfl | omega | assumption | (simp; omega))
      (try simp only [Act.put, aP, aZ, aS])
      refine rg_take (i := 6) (v := ?_) rfl (by kernel_rfl) (by kernel_rfl) (by kernel_rfl) (fun _ _ _ h => h) rfl (by assumption) ?_ ?_
      rotate_left
      · intro w hSw; (go_simp; first | done | with_reducible rfl | rfl | omega | assumption | (simp; omega))
      (try simp only [Act.put, aP, aZ, aS])
      refine rg_take (i := 7) (v := ?_) rfl (by kernel_rfl) (by kernel_rfl) (by kernel_rfl) (fun _ _ _ h => h) rfl (by assumption) ?_ ?_
      rotate_left
      · intro w hSw; ((with_reducible apply yl_load); assumption; rfl; (repeat (first | with_reducible assumption | ((with_reducible apply Cl.own); exact rfl) | ((with_reducible apply Cl.blkL); exact rfl) | with_reducible apply Cl.cons)); rfl)
      (try simp only [Act.put, aP, aZ, aS])
      refine rg_take (i := 8) (v := ?_) rfl (by kernel_rfl) (by kernel_rfl) (by kernel_rfl) (fun _ _ _ h => h) rfl (by assumption) ?_ ?_
      rotate_left
      · intro w hSw; (go_simp; first | done | with_reducible rfl | rfl | omega | assumption | (simp; omega))
      (try simp only [Act.put, aP, aZ, aS])
      refine rg_take (i := 9) (v := ?_) rfl (by kernel_rfl) (by kernel_rfl) (by kernel_rfl) (fun _ _ _ h => h) rfl (by assumption) ?_ ?_
      rotate_left
      · intro w hSw; (go_simp; first | done | with_reducible rfl | rfl | omega | assumption | (simp; omega))
      (try simp only [Act.put, aP, aZ, aS])
      refine rg_take (i := 10) (v := ?_) rfl (by kernel_rfl) (by kernel_rfl) (by kernel_rfl) (fun _ _ _ h => h) rfl (by assumption) ?_ ?_
      rotate_left
      · intro w hSw; (go_simp; first | done | with_reducible rfl | rfl | omega | assumption | (simp; omega))
      (try simp only [Act.put, aP, aZ, aS])
      refine rg_take (i := 11) (v := ?_) rfl (by kernel_rfl) (by kernel_rfl) (by kernel_rfl) (fun _ _ _ h => h) rfl (by assumption) ?_ ?_
      rotate_left
      · intro w hSw; (go_simp; first | done | with_reducible rfl | rfl | omega | assumption | (simp; omega))
      (try simp only [Act.put, aP, aZ, aS])
      refine rg_take (i := 12) (v := ?_) rfl (by kernel_rfl) (by kernel_rfl) (by kernel_rfl) (fun _ _ _ h => h) rfl (by assumption) ?_ ?_
      rotate_left
      · intro w hSw; ((with_reducible apply yl_load); assumption; rfl; (repeat (first | with_reducible assumption | ((with_reducible apply Cl.own); exact rfl) | ((with_reducible apply Cl.blkL); exact rfl) | with_reducible apply Cl.cons)); rfl)
      (try simp only [Act.put, aP, aZ, aS])
      refine rg_take (i := 13) (v := ?_) rfl (by kernel_rfl) (by kernel_rfl) (by kernel_rfl) (fun _ _ _ h => h) rfl (by assumption) ?_ ?_
      rotate_left
      · intro w hSw; (go_simp; first | done | with_reducible rfl | rfl | omega | assumption | (simp; omega))
      (try simp only [Act.put, aP, aZ, aS])
      refine rg_take (i := 14) (v := ?_) rfl (by kernel_rfl) (by kernel_rfl) (by kernel_rfl) (fun _ _ _ h => h) rfl (by assumption) ?_ ?_
      rotate_left
      · intro w hSw; (go_simp; first | done | with_reducible rfl | rfl | omega | assumption | (simp; omega))
      (try simp only [Act.put, aP, aZ, aS])
      refine rg_take (i := 15) (v := ?_) rfl (by kernel_rfl) (by kernel_rfl) (by kernel_rfl) (fun _ _ _ h => h) rfl (by assumption) ?_ ?_
      rotate_left
      · intro w hSw; (go_simp; first | done | with_reducible rfl | rfl | omega | assumption | (simp; omega))
      (try simp only [Act.put, aP, aZ, aS])
      refine rg_take (i := 16) (v := ?_) rfl (by kernel_rfl) (by kernel_rfl) (by kernel_rfl) (fun _ _ _ h => h) rfl (by assumption) ?_ ?_
      rotate_left
      · intro w hSw; (go_simp; first | done | with_reducible rfl | rfl | omega | assumption | (simp; omega))
      (try simp only [Act.put, aP, aZ, aS])
      refine rg_done (by kernel_rfl) ?_
      refine hK5.out _ _ ?_
      (try clear hK5 K5)
      refine wk_seq (fun K6 hK6 => ?_)
      -- at a cut
      go_cut [9] from 53 to 64 (fun s9 w => ∃ (b9 : Nat) (XA : Option Addr) (xa : Nat) (ys : List (Ent × Option Addr × Nat)), s9 = .pointer (some ⟨b9, 0, none⟩) ∧ ys.map (·.1) = pl ∧ Sat w0 w (blk b9 (.cells #[.int .i64 1, .int .i64 0, .int .i64 cm, .bool false, .int .i64 ab, .int .i64 at_, .slice XA pl.length xa] 28 (0, 0)) :: own 46 4 XA xa pl.length (entsCells ys) :: DV (entsData ys) :: blk b4 (.cells #[.int .i64 ab, .int .i64 at_, .slice A al.length ca] 30 (0, 0)) :: L))
      case first =>
        refine rg_start rfl (by assumption) (fun wr5 hsr5 => ?_)
        refine rg_take (i := 0) (v := ?_) rfl (by kernel_rfl) (by kernel_rfl) (by kernel_rfl) (fun _ _ _ h => h) rfl (by assumption) ?_ ?_
        rotate_left
        · intro w hSw; (go_simp; first | done | with_reducible rfl | rfl | omega | assumption | (simp; omega))
        (try simp only [Act.put, aP, aZ, aS])
        refine rg_take (i := 1) (v := ?_) rfl (by kernel_rfl) (by kernel_rfl) (by kernel_rfl) (fun _ _ _ h => h) rfl (by assumption) ?_ ?_
        rotate_left
        · intro w hSw; (go_simp; first | done | with_reducible rfl | rfl | omega | assumption | (simp; omega))
        (try simp only [Act.put, aP, aZ, aS])
        refine rg_take (i := 2) (v := ?_) rfl (by kernel_rfl) (by kernel_rfl) (by kernel_rfl) (fun _ _ _ h => h) rfl (by assumption) ?_ ?_
        rotate_left
        · intro w hSw; ((with_reducible apply yl_load); assumption; rfl; (repeat (first | with_reducible assumption | ((with_reducible apply Cl.own); exact rfl) | ((with_reducible apply Cl.blkL); exact rfl) | with_reducible apply Cl.cons)); rfl)
        (try simp only [Act.put, aP, aZ, aS])
        refine rg_take (i := 3) (v := ?_) rfl (by kernel_rfl) (by kernel_rfl) (by kernel_rfl) (fun _ _ _ h => h) rfl (by assumption) ?_ ?_
        rotate_left
        · intro w hSw; (go_simp; first | done | with_reducible rfl | rfl | omega | assumption | (simp; omega))
        (try simp only [Act.put, aP, aZ, aS])
        refine rg_take (i := 4) (v := ?_) rfl (by kernel_rfl) (by kernel_rfl) (by kernel_rfl) (fun _ _ _ h => h) rfl (by assumption) ?_ ?_
        rotate_left
        · intro w hSw; ((with_reducible apply yl_load); assumption; rfl; (repeat (first | with_reducible assumption | ((with_reducible apply Cl.own); exact rfl) | ((with_reducible apply Cl.blkL); exact rfl) | with_reducible apply Cl.cons)); rfl)
        (try simp only [Act.put, aP, aZ, aS])
        refine rg_take (i := 5) (v := ?_) rfl (by kernel_rfl) (by kernel_rfl) (by kernel_rfl) (fun _ _ _ h => h) rfl (by assumption) ?_ ?_
        rotate_left
        · intro w hSw; (go_simp; first | done | with_reducible rfl | rfl | omega | assumption | (simp; omega))
        (try simp only [Act.put, aP, aZ, aS])
        refine rg_take (i := 6) (v := ?_) rfl (by kernel_rfl) (by kernel_rfl) (by kernel_rfl) (fun _ _ _ h => h) rfl (by assumption) ?_ ?_
        rotate_left
        · intro w hSw; ((with_reducible apply yl_load); assumption; rfl; (repeat (first | with_reducible assumption | ((with_reducible apply Cl.own); exact rfl) | ((with_reducible apply Cl.blkL); exact rfl) | with_reducible apply Cl.cons)); rfl)
        (try simp only [Act.put, aP, aZ, aS])
        refine rg_take (i := 7) (v := ?_) rfl (by kernel_rfl) (by kernel_rfl) (by kernel_rfl) (fun _ _ _ h => h) rfl (by assumption) ?_ ?_
        rotate_left
        · intro w hSw; (go_simp; first | done | with_reducible rfl | rfl | omega | assumption | (simp; omega))
        (try simp only [Act.put, aP, aZ, aS])
        refine rg_take (i := 8) (v := (.slice PA pl.length ca)) rfl (by kernel_rfl) (by kernel_rfl) (by kernel_rfl) (fun _ _ _ h => h) rfl (by assumption) ?_ ?_
        · intro w hSw; ((with_reducible apply yl_sliceHi ki); rfl; rfl; rfl; omega; omega; rw [Hpn.out, HPA.out])
        (try simp only [Act.put, aP, aZ, aS])
        refine rg_take (i := 9) (v := ?_) rfl (by kernel_rfl) (by kernel_rfl) (by kernel_rfl) (fun _ _ _ h => h) rfl (by assumption) ?_ ?_
        rotate_left
        · intro w hSw; (go_simp; first | done | with_reducible rfl | rfl | omega | assumption | (simp; omega))
        (try simp only [Act.put, aP, aZ, aS])
        refine rg_take (i := 10) (v := ?_) rfl (by kernel_rfl) (by kernel_rfl) (by kernel_rfl) (fun _ _ _ h => h) rfl (by assumption) ?_ ?_
        rotate_left
        · intro w hSw; (go_simp; first | done | with_reducible rfl | rfl | omega | assumption | (simp; omega))
        (try simp only [Act.put, aP, aZ, aS])
        refine rg_two (i := 11) (j := 12) (by kernel_rfl) rfl rfl rfl rfl (fun Kp hKp => ?_) (fun Kp hKp => ?_)
        · go_simp
          (refine (seen_spec 1 0 cm false ab at_ pl hpl1 hpd (by assumption) ((SlV.mono EntV.mono).pick (by (repeat (first | exact Pick.nil _ | exact Pick.tail _ | exact Out.here _ | apply Out.there | apply Pick.cons | apply Pick.drop))) hEp)).mono ?_; rintro e64 w64 ⟨XA, xa, ys, hys, rfl, hs64⟩)
          (try go_wp2_with fail)
          refine rg_back (hK := hKp) ?_ (fun hsk64 => ?_)
          · (first | assumption | (apply Sat.drew; assumption) | (apply Sat.pick; assumption; (repeat (first | exact Pick.nil _ | with_reducible exact Pick.tail _ | with_reducible exact Out.here _ | apply Out.there | apply Pick.cons | apply Pick.drop))))
          clear hKp Kp
          have hsz64 := hs64
          (try simp only [Act.put, aP, aZ, aS])
          refine rg_one (i := 12) (by kernel_rfl) rfl rfl (fun Kp hKp => ?_)
          ((with_reducible apply st_alloc); assumption; intro b9 w9 hs9; simp only [Value.cells] at hs9)
          refine rg_back (hK := hKp) ?_ (fun hsk9 => ?_)
          · (first | assumption | (apply Sat.drew; assumption) | (apply Sat.pick; assumption; (repeat (first | exact Pick.nil _ | with_reducible exact Pick.tail _ | with_reducible exact Out.here _ | apply Out.there | apply Pick.cons | apply Pick.drop))))
          clear hKp Kp
          have hsz9 := hs9
          (try simp only [Act.put, aP, aZ, aS])
          refine rg_one (i := 13) (by kernel_rfl) rfl rfl (fun Kp hKp => ?_)
          (first | ((with_reducible apply st_storeAll); assumption; rfl; (go_simp; rfl); (repeat (first | with_reducible exact Out.here _ | apply Out.there)); rfl; (focus (first | (simp [Value.oneCell']; done) | (simp [Value.cells, Value.oneCell']; done))); rfl; intro wr5_13 hsr5_13; simp only [Value.cells] at hsr5_13) | ((with_reducible apply st_store); assumption; rfl; (go_simp; rfl); (repeat (first | with_reducible exact Out.here _ | apply Out.there)); rfl; (first | (focus (simp [Value.oneCell']; done)) | (simp [Value.cells, Value.oneCell'])); (first | (focus (simp; done)) | (simp [Value.cells])); intro wr5_13 hsr5_13; simp only [upd, Value.cells] at hsr5_13))
          refine rg_back (hK := hKp) ?_ (fun hskr5_13 => ?_)
          · (first | assumption | (apply Sat.drew; assumption) | (apply Sat.pick; assumption; (repeat (first | exact Pick.nil _ | with_reducible exact Pick.tail _ | with_reducible exact Out.here _ | apply Out.there | apply Pick.cons | apply Pick.drop))))
          clear hKp Kp
          have hszr5_13 := hsr5_13
          (try dsimp only [Act.put])
          refine rg_done (by kernel_rfl) ?_
          refine (by assumption : ∀ a' w', Met _ a' w' → _) _ _ ?_
          go_meet
          case rel => exact ⟨_, XA, xa, ys, rfl, hys, (by assumption : Sat w0 _ _).pick (by (repeat (first | exact Pick.nil _ | exact Pick.tail _ | exact Out.here _ | apply Out.there | apply Pick.cons | apply Pick.drop)))⟩
        · ((with_reducible apply st_alloc); assumption; intro b9 w9 hs9; simp only [Value.cells] at hs9)
          refine rg_back (hK := hKp) ?_ (fun hsk9 => ?_)
          · (first | assumption | (apply Sat.drew; assumption) | (apply Sat.pick; assumption; (repeat (first | exact Pick.nil _ | with_reducible exact Pick.tail _ | with_reducible exact Out.here _ | apply Out.there | apply Pick.cons | apply Pick.drop))))
          clear hKp Kp
          have hsz9 := hs9
          (try simp only [Act.put, aP, aZ, aS])
          refine rg_one (i := 11) (by kernel_rfl) rfl rfl (fun Kp hKp => ?_)
          go_simp
          (refine (seen_spec 1 0 cm false ab at_ pl hpl1 hpd (by assumption) ((SlV.mono EntV.mono).pick (by (repeat (first | exact Pick.nil _ | exact Pick.tail _ | exact Out.here _ | apply Out.there | apply Pick.cons | apply Pick.drop))) hEp)).mono ?_; rintro e64 w64 ⟨XA, xa, ys, hys, rfl, hs64⟩)
          (try go_wp2_with fail)
          refine rg_back (hK := hKp) ?_ (fun hsk64 => ?_)
          · (first | assumption | (apply Sat.drew; assumption) | (apply Sat.pick; assumption; (repeat (first | exact Pick.nil _ | with_reducible exact Pick.tail _ | with_reducible exact Out.here _ | apply Out.there | apply Pick.cons | apply Pick.drop))))
          clear hKp Kp
          have hsz64 := hs64
          (try simp only [Act.put, aP, aZ, aS])
          refine rg_one (i := 13) (by kernel_rfl) rfl rfl (fun Kp hKp => ?_)
          (first | ((with_reducible apply st_storeAll); assumption; rfl; (go_simp; rfl); (repeat (first | with_reducible exact Out.here _ | apply Out.there)); rfl; (focus (first | (simp [Value.oneCell']; done) | (simp [Value.cells, Value.oneCell']; done))); rfl; intro wr5_13 hsr5_13; simp only [Value.cells] at hsr5_13) | ((with_reducible apply st_store); assumption; rfl; (go_simp; rfl); (repeat (first | with_reducible exact Out.here _ | apply Out.there)); rfl; (first | (focus (simp [Value.oneCell']; done)) | (simp [Value.cells, Value.oneCell'])); (first | (focus (simp; done)) | (simp [Value.cells])); intro wr5_13 hsr5_13; simp only [upd, Value.cells] at hsr5_13))
          refine rg_back (hK := hKp) ?_ (fun hskr5_13 => ?_)
          · (first | assumption | (apply Sat.drew; assumption) | (apply Sat.pick; assumption; (repeat (first | exact Pick.nil _ | with_reducible exact Pick.tail _ | with_reducible exact Out.here _ | apply Out.there | apply Pick.cons | apply Pick.drop))))
          clear hKp Kp
          have hszr5_13 := hsr5_13
          (try dsimp only [Act.put])
          refine rg_done (by kernel_rfl) ?_
          refine (by assumption : ∀ a' w', Met _ a' w' → _) _ _ ?_
          go_meet
          case rel => exact ⟨_, XA, xa, ys, rfl, hys, (by assumption : Sat w0 _ _).pick (by (repeat (first | exact Pick.nil _ | exact Pick.tail _ | exact Out.here _ | apply Out.there | apply Pick.cons | apply Pick.drop)))⟩
      case rest =>
        obtain ⟨b9, XA, xa, ys, rfl, hys, hsA⟩ := hcut
        have hE1 := ents_slV' (w0 := w0) (L := L) (A := XA) (c := xa) ys hys h64p
        refine hK6.out _ _ ?_
        clear hK6 K6
        refine wk_seq (fun K7 hK7 => ?_)
        refine wk_reg ?_
        iterate 3 (refine pl_take (v := ?_) rfl ?_ ?_; rotate_left; (· (first | (first | ((with_reducible apply yl_loadAgg); assumption; rfl; (repeat (first | with_reducible exact Out.here _ | apply Out.there)); (simp); rfl; rfl) | ((with_reducible apply yl_loadAggR); assumption; rfl; (repeat (first | with_reducible assumption | with_reducible exact Rd.own | with_reducible exact Rd.nil | with_reducible apply Rd.cons)); rfl)) | (go_simp; first | done | with_reducible rfl | rfl | omega | assumption | (simp; omega)))); (try simp only [Act.put, aP, aZ, aS]))
        refine pl_eff rfl (fun Kp hKp => ?_)
        go_simp
        (refine (seen_spec 2 0 cm false ab at_ al hal hda (by assumption) ((SlV.mono EntV.mono).pick (by (repeat (first | exact Pick.nil _ | exact Pick.tail _ | exact Out.here _ | apply Out.there | apply Pick.cons | apply Pick.drop))) hE)).mono ?_; rintro e68 w68 ⟨Y68, y68, zs, hzs, rfl, hs68⟩; have hE2 := ents_slV' (w0 := w0) (L := L) (A := Y68) (c := y68) zs hzs h64a; have hyc := hs68.own_cap)
        (try go_wp2_with fail)
        refine hKp.out _ _ ?_
        clear hKp Kp
        (try simp only [Act.put, aP, aZ, aS])
        refine pl_eff rfl (fun Kp hKp => ?_)
        ((with_reducible apply st_alloc); assumption; intro b10 w10 hs10; simp only [Value.cells] at hs10)
        refine hKp.out _ _ ?_
        clear hKp Kp
        (try simp only [Act.put, aP, aZ, aS])
        refine pl_eff rfl (fun Kp hKp => ?_)
        (first | ((with_reducible apply st_storeAll); assumption; rfl; (go_simp; rfl); (repeat (first | with_reducible exact Out.here _ | apply Out.there)); rfl; (focus (first | (simp [Value.oneCell']; done) | (simp [Value.cells, Value.oneCell']; done))); rfl; intro wr6_5 hsr6_5; simp only [Value.cells] at hsr6_5) | ((with_reducible apply st_store); assumption; rfl; (go_simp; rfl); (repeat (first | with_reducible exact Out.here _ | apply Out.there)); rfl; (first | (focus (simp [Value.oneCell']; done)) | (simp [Value.cells, Value.oneCell'])); (first | (focus (simp; done)) | (simp [Value.cells])); intro wr6_5 hsr6_5; simp only [upd, Value.cells] at hsr6_5))
        refine hKp.out _ _ ?_
        clear hKp Kp
        (try dsimp only [Act.put])
        refine pl_done ?_
        refine hK7.out _ _ ?_
        (try clear hK7 K7)
        refine wk_seq (fun K8 hK8 => ?_)
        -- at a cut
        by_cases hk0 : kk = 0
        · obtain rfl : al = dl := by have := Hdl.out; rw [hk0] at this; simpa using this
          have hkc : ¬ ((0 : Int) < (kk : Int)) := by omega
          have hbk : ab = ab + (kk : Int) := by omega
          have hm' := hm ab at_ hbk
          have hg' := hg ab at_ hbk
          clear hk0 hbk hm hg
          refine wk_seq (fun K9 hK9 => ?_)
          refine wk_reg ?_
          refine pl_take (v := ?_) rfl ?_ ?_
          rotate_left
          · (go_simp; first | done | with_reducible rfl | rfl | omega | assumption | (simp; omega))
          (try simp only [Act.put, aP, aZ, aS])
          refine pl_take (v := .bool false) rfl ?_ ?_
          · (go_simp; first | done | with_reducible rfl | rfl | omega | assumption | (simp; omega))
          (try simp only [Act.put, aP, aZ, aS])
          refine pl_done ?_
          refine hK9.out _ _ ?_
          (try clear hK9 K9)
          refine wp_cond_false rfl ?_
          refine wp_skip ?_
          refine hK8.out _ _ ?_
          (try clear hK8 K8)
          refine wk_seq (fun K12 hK12 => ?_)
          refine wk_reg ?_
          iterate 4 (refine pl_take (v := ?_) rfl ?_ ?_; rotate_left; (· (first | (first | ((with_reducible apply yl_loadAgg); assumption; rfl; (repeat (first | with_reducible exact Out.here _ | apply Out.there)); (simp); rfl; rfl) | ((with_reducible apply yl_loadAggR); assumption; rfl; (repeat (first | with_reducible assumption | with_reducible exact Rd.own | with_reducible exact Rd.nil | with_reducible apply Rd.cons)); rfl)) | (go_simp; first | done | with_reducible rfl | rfl | omega | assumption | (simp; omega)))); (try simp only [Act.put, aP, aZ, aS]))
          refine pl_eff rfl (fun Kp hKp => ?_)
          go_simp
          (refine (hm' _ _ _ _ _ _ (by assumption) ((SlV.mono EntV.mono).pick (by (repeat (first | exact Pick.nil _ | exact Pick.tail _ | exact Out.here _ | apply Out.there | apply Pick.cons | apply Pick.drop))) hE1) ((SlV.mono EntV.mono).pick (by (repeat (first | exact Pick.nil _ | exact Pick.tail _ | exact Out.here _ | apply Out.there | apply Pick.cons | apply Pick.drop))) hE2)).mono ?_; rintro e100 w100 ⟨rfl, hs100⟩)
          (try go_wp2_with fail)
          refine hKp.out _ _ ?_
          clear hKp Kp
          (try simp only [Act.put, aP, aZ, aS])
          iterate 2 (refine pl_take (v := .bool true) rfl ?_ ?_; (· (go_simp; first | done | with_reducible rfl | rfl | omega | assumption | (simp; omega))); (try simp only [Act.put, aP, aZ, aS]))
          iterate 2 (refine pl_take (v := ?_) (by kernel_rfl) ?_ ?_; rotate_left; (· (first | ((with_reducible apply yl_loadAgg); assumption; rfl; (repeat (first | with_reducible exact Out.here _ | apply Out.there)); (simp); rfl; rfl) | ((with_reducible apply yl_loadAggR); assumption; rfl; (repeat (first | with_reducible assumption | with_reducible exact Rd.own | with_reducible exact Rd.nil | with_reducible apply Rd.cons)); rfl))); (try simp only [Act.put, aP, aZ, aS]))
          refine pl_eff (by kernel_rfl) (fun Kp hKp => ?_)
          go_simp
          (refine (hg' _ _ _ _ _ _ (by assumption) ((SlV.mono EntV.mono).pick (by (repeat (first | exact Pick.nil _ | exact Pick.tail _ | exact Out.here _ | apply Out.there | apply Pick.cons | apply Pick.drop))) hE1) ((SlV.mono EntV.mono).pick (by (repeat (first | exact Pick.nil _ | exact Pick.tail _ | exact Out.here _ | apply Out.there | apply Pick.cons | apply Pick.drop))) hE2)).mono ?_; rintro e105 w105 ⟨rfl, hs105⟩)
          (try go_wp2_with fail)
          refine hKp.out _ _ ?_
          clear hKp Kp
          (try simp only [Act.put, aP, aZ, aS])
          refine pl_take (v := .bool true) (by kernel_rfl) ?_ ?_
          · (go_simp; first | done | with_reducible rfl | rfl | omega | assumption | (simp; omega))
          (try simp only [Act.put, aP, aZ, aS])
          iterate 2 (refine pl_take (v := .bool true) rfl ?_ ?_; (· (go_simp; first | done | with_reducible rfl | rfl | omega | assumption | (simp; omega))); (try simp only [Act.put, aP, aZ, aS]))
          refine pl_eff (by kernel_rfl) (fun Kp hKp => ?_)
          go_simp
          (refine (knows20_spec (by assumption)).mono ?_; rintro e109 w109 ⟨rfl, hs109⟩)
          (try go_wp2_with fail)
          refine hKp.out _ _ ?_
          clear hKp Kp
          (try simp only [Act.put, aP, aZ, aS])
          iterate 2 (refine pl_take (v := .bool true) rfl ?_ ?_; (· (go_simp; first | done | with_reducible rfl | rfl | omega | assumption | (simp; omega))); (try simp only [Act.put, aP, aZ, aS]))
          refine pl_done ?_
          refine hK12.out _ _ ?_
          (try clear hK12 K12)
          refine wp_ret ?_
          go_ret
          exact ⟨rfl, (by assumption : Sat w0 _ _).pick (by (repeat (first | exact Pick.nil _ | exact Pick.tail _ | exact Out.here _ | apply Out.there | apply Pick.cons | apply Pick.drop)))⟩
        · obtain ⟨j, Hj⟩ : ∃ j, Hid (kk = j + 1) := ⟨kk - 1, by unfold Hid; omega⟩
          have hjl : j < al.length := by have := Hj.out; omega
          have hkc : ((0 : Int) < (kk : Int)) := by omega
          obtain ⟨x, hx⟩ : ∃ x, al[j]? = some x := ⟨al[j], List.getElem?_eq_getElem hjl⟩
          have hbk : x.i = ab + (kk : Int) := by rw [rowOk_ix hok hx]; have := Hj.out; omega
          have hm' := hm x.i x.t hbk
          have hg' := hg x.i x.t hbk
          obtain ⟨A', ca', vs, he1, hRv, hvl, hel⟩ := hE
          simp only [List.cons.injEq, Value.slice.injEq, and_true, true_and] at he1
          obtain ⟨rfl, rfl⟩ := he1
          obtain ⟨⟨Ax, cx, ex, hrx⟩, _⟩ := hel j x hx
          obtain ⟨ga, oa, rfl⟩ := hRv.some_of hs (by omega)
          have hrow := hRv.row_at j hjl
          rw [ex] at hrow
          obtain ⟨et, ei, q, d⟩ := x
          simp only at hrow hm' hg'
          have hc0 : Cl w0 L ⟨ga, oa + j * 4, none⟩ (.int .i64 et) := by simpa using hrow.cell_at (j := 0) rfl
          have hc1 : Cl w0 L ⟨ga, oa + j * 4 + 1, none⟩ (.int .i64 ei) := hrow.cell_at (j := 1) rfl
          have i0 : (0 : Int) ≤ (j : Int) := by omega
          have i1 : (j : Int) < (al.length : Int) := by omega
          have hwj : IntKind.i64.wrap ((kk : Int) - 1) = (j : Int) := by rw [IntWalk.i64_in _ (by omega)]; have := Hj.out; omega
          obtain ⟨DA, hDA⟩ : ∃ B, (if y68 = kk then Y68 else Y68.map (·.add (kk * 4))) = B := ⟨_, rfl⟩
          have hED : SlV EntV 4 (Rd w0 (own 46 4 Y68 y68 al.length (entsCells zs) :: DV (entsData zs) :: L)) [.slice DA dl.length (y68 - kk)] dl := by rw [← hDA, ← Hdl.out]; exact SlV.drop kk (by omega) hyc rfl hE2
          have HDA := Hid.mk' hDA
          have hkl : kk ≤ al.length := by omega
          clear hk0 hbk hm hg ex hel hx hDA hn hr1 hr2 hf ho hE2
          refine wk_seq (fun K9 hK9 => ?_)
          refine wk_reg ?_
          refine pl_take (v := ?_) rfl ?_ ?_
          rotate_left
          · (go_simp; first | done | with_reducible rfl | rfl | omega | assumption | (simp; omega))
          (try simp only [Act.put, aP, aZ, aS])
          refine pl_take (v := .bool true) rfl ?_ ?_
          · (go_simp; first | done | with_reducible rfl | rfl | omega | assumption | (simp; omega))
          (try simp only [Act.put, aP, aZ, aS])
          refine pl_done ?_
          refine hK9.out _ _ ?_
          (try clear hK9 K9)
          refine wp_cond_true rfl ?_
          refine wk_seq (fun K10 hK10 => ?_)
          refine wk_reg ?_
          iterate 9 (refine pl_take (v := ?_) rfl ?_ ?_; rotate_left; (· (first | ((with_reducible apply yl_load); assumption; rfl; (repeat (first | with_reducible assumption | ((with_reducible apply Cl.own); exact rfl) | ((with_reducible apply Cl.blkL); exact rfl) | with_reducible apply Cl.cons)); rfl) | (go_simp; first | done | with_reducible rfl | rfl | omega | assumption | (simp; omega)))); (try simp only [Act.put, aP, aZ, aS]))
          refine pl_eff rfl (fun Kp hKp => ?_)
          (first | ((with_reducible apply st_store1); assumption; rfl; (go_simp; rfl); (repeat (first | with_reducible exact Out.here _ | apply Out.there)); rfl; rfl; simp; intro wr8_9 hsr8_9; (try simp only [aP] at hsr8_9); (try simp only [aS] at hsr8_9); (try simp only [aZ] at hsr8_9)) | ((with_reducible apply st_store_own); assumption; rfl; (go_simp; rfl); (repeat (first | with_reducible exact Out.here _ | apply Out.there)); rfl; rfl; omega; intro wr8_9 hsr8_9))
          refine hKp.out _ _ ?_
          clear hKp Kp
          (try dsimp only [Act.put])
          refine pl_done ?_
          refine hK10.out _ _ ?_
          (try clear hK10 K10)
          refine wk_seq (fun K11 hK11 => ?_)
          refine wk_reg ?_
          iterate 9 (refine pl_take (v := ?_) rfl ?_ ?_; rotate_left; (· (first | ((with_reducible apply yl_load); assumption; rfl; (repeat (first | with_reducible assumption | ((with_reducible apply Cl.own); exact rfl) | ((with_reducible apply Cl.blkL); exact rfl) | with_reducible apply Cl.cons)); rfl) | (go_simp; first | done | with_reducible rfl | rfl | omega | assumption | (simp; omega)))); (try simp only [Act.put, aP, aZ, aS]))
          refine pl_eff rfl (fun Kp hKp => ?_)
          (first | ((with_reducible apply st_store1); assumption; rfl; (go_simp; rfl); (repeat (first | with_reducible exact Out.here _ | apply Out.there)); rfl; rfl; simp; intro wr9_9 hsr9_9; (try simp only [aP] at hsr9_9); (try simp only [aS] at hsr9_9); (try simp only [aZ] at hsr9_9)) | ((with_reducible apply st_store_own); assumption; rfl; (go_simp; rfl); (repeat (first | with_reducible exact Out.here _ | apply Out.there)); rfl; rfl; omega; intro wr9_9 hsr9_9))
          refine hKp.out _ _ ?_
          clear hKp Kp
          (try dsimp only [Act.put])
          refine pl_done ?_
          refine hK11.out _ _ ?_
          (try clear hK11 K11)
          refine wk_reg ?_
          iterate 4 (refine pl_take (v := ?_) rfl ?_ ?_; rotate_left; (· (first | ((with_reducible apply yl_load); assumption; rfl; (repeat (first | with_reducible assumption | ((with_reducible apply Cl.own); exact rfl) | ((with_reducible apply Cl.blkL); exact rfl) | with_reducible apply Cl.cons)); rfl) | (go_simp; first | done | with_reducible rfl | rfl | omega | assumption | (simp; omega)))); (try simp only [Act.put, aP, aZ, aS]))
          refine pl_take (v := (.slice DA dl.length (y68 - kk))) rfl ?_ ?_
          · ((with_reducible apply yl_sliceLo kk); rfl; rfl; rfl; omega; rw [Hdn.out, HDA.out])
          (try simp only [Act.put, aP, aZ, aS])
          iterate 2 (refine pl_take (v := ?_) rfl ?_ ?_; rotate_left; (· (go_simp; first | done | with_reducible rfl | rfl | omega | assumption | (simp; omega))); (try simp only [Act.put, aP, aZ, aS]))
          refine pl_eff rfl (fun Kp hKp => ?_)
          (first | ((with_reducible apply st_store1); assumption; rfl; (go_simp; rfl); (repeat (first | with_reducible exact Out.here _ | apply Out.there)); rfl; rfl; simp; intro wr10_7 hsr10_7; (try simp only [aP] at hsr10_7); (try simp only [aS] at hsr10_7); (try simp only [aZ] at hsr10_7)) | ((with_reducible apply st_store_own); assumption; rfl; (go_simp; rfl); (repeat (first | with_reducible exact Out.here _ | apply Out.there)); rfl; rfl; omega; intro wr10_7 hsr10_7))
          refine hKp.out _ _ ?_
          clear hKp Kp
          (try dsimp only [Act.put])
          refine pl_done ?_
          refine hK8.out _ _ ?_
          (try clear hK8 K8)
          refine wk_seq (fun K12 hK12 => ?_)
          refine wk_reg ?_
          iterate 4 (refine pl_take (v := ?_) rfl ?_ ?_; rotate_left; (· (first | (first | ((with_reducible apply yl_loadAgg); assumption; rfl; (repeat (first | with_reducible exact Out.here _ | apply Out.there)); (simp); rfl; rfl) | ((with_reducible apply yl_loadAggR); assumption; rfl; (repeat (first | with_reducible assumption | with_reducible exact Rd.own | with_reducible exact Rd.nil | with_reducible apply Rd.cons)); rfl)) | (go_simp; first | done | with_reducible rfl | rfl | omega | assumption | (simp; omega)))); (try simp only [Act.put, aP, aZ, aS]))
          refine pl_eff rfl (fun Kp hKp => ?_)
          go_simp
          (refine (hm' _ _ _ _ _ _ (by assumption) ((SlV.mono EntV.mono).pick (by (repeat (first | exact Pick.nil _ | exact Pick.tail _ | exact Out.here _ | apply Out.there | apply Pick.cons | apply Pick.drop))) hE1) ((SlV.mono EntV.mono).pick (by (repeat (first | exact Pick.nil _ | exact Pick.tail _ | exact Out.here _ | apply Out.there | apply Pick.cons | apply Pick.drop))) hED)).mono ?_; rintro e100 w100 ⟨rfl, hs100⟩)
          (try go_wp2_with fail)
          refine hKp.out _ _ ?_
          clear hKp Kp
          (try simp only [Act.put, aP, aZ, aS])
          iterate 2 (refine pl_take (v := .bool true) rfl ?_ ?_; (· (go_simp; first | done | with_reducible rfl | rfl | omega | assumption | (simp; omega))); (try simp only [Act.put, aP, aZ, aS]))
          iterate 2 (refine pl_take (v := ?_) (by kernel_rfl) ?_ ?_; rotate_left; (· (first | ((with_reducible apply yl_loadAgg); assumption; rfl; (repeat (first | with_reducible exact Out.here _ | apply Out.there)); (simp); rfl; rfl) | ((with_reducible apply yl_loadAggR); assumption; rfl; (repeat (first | with_reducible assumption | with_reducible exact Rd.own | with_reducible exact Rd.nil | with_reducible apply Rd.cons)); rfl))); (try simp only [Act.put, aP, aZ, aS]))
          refine pl_eff (by kernel_rfl) (fun Kp hKp => ?_)
          go_simp
          (refine (hg' _ _ _ _ _ _ (by assumption) ((SlV.mono EntV.mono).pick (by (repeat (first | exact Pick.nil _ | exact Pick.tail _ | exact Out.here _ | apply Out.there | apply Pick.cons | apply Pick.drop))) hE1) ((SlV.mono EntV.mono).pick (by (repeat (first | exact Pick.nil _ | exact Pick.tail _ | exact Out.here _ | apply Out.there | apply Pick.cons | apply Pick.drop))) hED)).mono ?_; rintro e105 w105 ⟨rfl, hs105⟩)
          (try go_wp2_with fail)
          refine hKp.out _ _ ?_
          clear hKp Kp
          (try simp only [Act.put, aP, aZ, aS])
          refine pl_take (v := .bool true) (by kernel_rfl) ?_ ?_
          · (go_simp; first | done | with_reducible rfl | rfl | omega | assumption | (simp; omega))
          (try simp only [Act.put, aP, aZ, aS])
          iterate 2 (refine pl_take (v := .bool true) rfl ?_ ?_; (· (go_simp; first | done | with_reducible rfl | rfl | omega | assumption | (simp; omega))); (try simp only [Act.put, aP, aZ, aS]))
          refine pl_eff (by kernel_rfl) (fun Kp hKp => ?_)
          go_simp
          (refine (knows20_spec (by assumption)).mono ?_; rintro e109 w109 ⟨rfl, hs109⟩)
          (try go_wp2_with fail)
          refine hKp.out _ _ ?_
          clear hKp Kp
          (try simp only [Act.put, aP, aZ, aS])
          iterate 2 (refine pl_take (v := .bool true) rfl ?_ ?_; (· (go_simp; first | done | with_reducible rfl | rfl | omega | assumption | (simp; omega))); (try simp only [Act.put, aP, aZ, aS]))
          refine pl_done ?_
          refine hK12.out _ _ ?_
          (try clear hK12 K12)
          refine wp_ret ?_
          go_ret
          exact ⟨rfl, (by assumption : Sat w0 _ _).pick (by (repeat (first | exact Pick.nil _ | exact Pick.tail _ | exact Out.here _ | apply Out.there | apply Pick.cons | apply Pick.drop)))⟩
section
variable {H : Type} {enc : TypeId × Value → H} {W : World}
theorem open_cap {T E : TypeId} {fuel : Nat} {A : Option Addr} {n c : Nat} {x : DataW H × List MemPlace} (hT : Try.prog.underlying T = some (.slice E)) (h : DataW.trod enc Try.prog W 0 (fun _ => true) true fuel T [.slice A n c] = some x) : n ≤ c := by
  rcases DataW.trod_slice hT h with ⟨e, _⟩ | ⟨a, len, cap, _, _, _, _, e, _, _, hl, _⟩
  · simp only [List.cons.injEq, Value.slice.injEq, and_true] at e; omega
  · simp only [List.cons.injEq, Value.slice.injEq, and_true] at e; omega

set_option maxRecDepth 100000 in
theorem open_viewC {fuel : Nat} {cs : List Value} {x : DataW H × List MemPlace} (h : DataW.trod enc Try.prog W 0 (fun _ => true) true fuel 30 cs = some x) :
    ∃ (b t : Int) (l : List Ent) (A : Option Addr) (ca : Nat), cs = [.int .i64 b, .int .i64 t, .slice A l.length ca] ∧ SlV EntV 4 (Reads W) [.slice A l.length ca] l ∧ l.length ≤ ca ∧ l.length ≤ Rows.uptoBulk x.1 ∧ (∀ e ∈ l, e.d.length ≤ Rows.uptoBulk x.1) := by
  obtain ⟨xs, n, _, rfl, hl, hlen, hf⟩ := DataW.trod_struct Try.underlying30 h
  rw [show Try.prog.cellsOf 30 = 3 from by kernel_rfl] at hl
  match cs, hl with
  | [c0, c1, c2], _ =>
  match xs, hlen with
  | [y0, y1, y2], _ =>
    have h0 := hf 0 _ rfl
    have h1 := hf 1 _ rfl
    have h2 := hf 2 _ rfl
    dsimp only [List.getElem_toArray, List.getElem_cons_zero, List.getElem_cons_succ] at h0 h1 h2
    rw [show Try.prog.cellsOf 3 = 1 from by kernel_rfl] at h0 h1
    rw [show Try.prog.cellsOf 24 = 1 from by kernel_rfl] at h2
    obtain ⟨b, e0, b0, w0⟩ := open_intV Try.underlying3 h0
    obtain ⟨t, e1, b1, w1⟩ := open_intV Try.underlying3 h1
    obtain ⟨es, ⟨A, ca, vs, e2, hr⟩, w2, u2⟩ := open_slV (f := EntV) (wt := fun e => e.d.length) (sz := 4) Try.underlying24 (by kernel_rfl) (by omega) (fun _ _ _ h => by obtain ⟨e, h1, h2⟩ := open_entry h; exact ⟨e, h1, by omega⟩) h2
    rw [e2] at h2
    have hcap := open_cap Try.underlying24 h2
    simp at e0 e1 e2
    subst e0 e1 e2
    refine ⟨b, t, es, A, ca, rfl, ⟨A, ca, vs, rfl, hr⟩, hcap, ?_, fun e he => ?_⟩
    · simp [Rows.uptoBulk, Rows.uptoBulkAll]; omega
    · have := mem_le_sumW es e he; simp [Rows.uptoBulk, Rows.uptoBulkAll]; omega
end
end Go.Proofs.Ytcpcdhlfdabbnaa
