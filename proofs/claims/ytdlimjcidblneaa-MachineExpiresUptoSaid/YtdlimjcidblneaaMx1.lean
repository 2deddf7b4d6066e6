/-
  A session that was not used for a span is no more: MachineExpires, the walk.
-/
import Derived.Test.YtdlimjcidblneaaMo2
import Derived.Test.YtdlimjcidblneaaSs5
import Derived.Test.YtdlimjcidblneaaSrv4
namespace Go.Proofs.Ytdlimjcidblneaa
open Go Go.RowKit Sl Go.Shelf
set_option maxHeartbeats 20000000
set_option maxRecDepth 8000


def x1M (sp : Int) : Mc := ⟨sp, 10, 0, [], [(10, ⟨0, 0, 10⟩)]⟩
def x2M (sp gp : Int) : Mc := if sp ≤ gp then ⟨sp, 10 + gp, 0, [], []⟩ else ⟨sp, 10 + gp, 0, [[5]], [(10, ⟨1, 0, 10 + gp⟩)]⟩

theorem x1_eq (sp : Int) : (Mc.new sp).apply 10 cOpen = (⟨0, 10, 0, 0⟩, x1M sp) := by unfold Mc.apply; rw [cmd_open]; rfl
theorem x2_eq {sp gp : Int} (hg : 1 ≤ gp ∧ gp ≤ 100) : (x1M sp).apply (10 + gp) (cPut 10 1 [5]) = (⟨if sp ≤ gp then 40 else 0, 0, 0, 0⟩, x2M sp gp) := by
  unfold Mc.apply
  rw [if_neg (by simp only [x1M]; omega), if_neg (by omega), cmd_put (by decide) (by decide) (by decide)]
  unfold Mc.does Mc.expire x1M x2M
  simp only
  rw [if_neg (by omega), if_pos trivial]
  by_cases h : sp ≤ gp
  · rw [if_pos h, if_pos h, show ([(10, (⟨0, 0, 10⟩ : Se))] : List (Int × Se)).filter (fun x => decide (10 + gp - sp < x.2.t)) = [] from by simp; omega]
    rfl
  · rw [if_neg h, if_neg h, show ([(10, (⟨0, 0, 10⟩ : Se))] : List (Int × Se)).filter (fun x => decide (10 + gp - sp < x.2.t)) = [(10, ⟨0, 0, 10⟩)] from by simp; omega]
    rfl

theorem sessionsMR_nil {w0 w : World} {L : List HP} {p : Nat} {M : Mc} (h : M.ss = []) (hs : Sat w0 w (MR p M :: L)) :
    Calls Try.prog 28 #[.pointer (some ⟨p, 0, none⟩)] w (fun e w' => ∃ (A : Option Addr) (c : Nat), e = .returned (.slice A 0 c) ∧ Sat w0 w' (MR p M :: L)) := by
  refine (sessionsMR_spec (by rw [h]; simp) hs).mono ?_
  rintro e w' ⟨A, c, ss, hp, rfl, hs2⟩
  rw [h] at hp
  obtain rfl := hp.eq_nil
  exact ⟨A, c, rfl, hs2.tail⟩

theorem sessionsMR_one {w0 w : World} {L : List HP} {p : Nat} {M : Mc} {k : Int} {s : Se} (h : M.ss = [(k, s)]) (hs : Sat w0 w (MR p M :: L)) :
    Calls Try.prog 28 #[.pointer (some ⟨p, 0, none⟩)] w (fun e w' => ∃ (A : Option Addr) (c : Nat), e = .returned (.slice A 1 c) ∧ Sat w0 w' (own 3 1 A c 1 [.int .i64 k] :: MR p M :: L)) := by
  refine (sessionsMR_spec (by rw [h]; simp) hs).mono ?_
  rintro e w' ⟨A, c, ss, hp, rfl, hs2⟩
  rw [h] at hp
  obtain rfl := List.perm_singleton.1 hp
  rw [List.mergeSort_singleton] at hs2
  exact ⟨A, c, rfl, hs2⟩

theorem ints_ten {w0 w : World} {L : List HP} {A B : Option Addr} {c d : Nat} (hs : Sat w0 w L) (hA : Rd w0 L A 1 1 [.int .i64 10]) (hB : Rd w0 L B 1 1 [.int .i64 10]) :
    Calls Try.prog 29 #[.slice A 1 c, .slice B 1 d] w (RetB w0 L true) := ints_spec [10] [10] rfl rfl (by omega) (by omega) hs hA hB


theorem machineExpires_walk {w0 w : World} {L : List HP} (xs xg : Int) (hs : Sat w0 w L) :
    Calls Try.prog 6 #[.int .i64 xs, .int .i64 xg] w (RetB w0 L true) := by
  have t1 := tmodK_bound xs 50 (by omega)
  have t2 := tmodK_bound xg 100 (by omega)
  obtain ⟨r1, hr1⟩ : ∃ r, Int.tmod xs 50 = r := ⟨_, rfl⟩
  obtain ⟨r2, hr2⟩ : ∃ r, Int.tmod xg 100 = r := ⟨_, rfl⟩
  rw [hr1] at t1
  rw [hr2] at t2
  have t3 := tmodK_pos (x := r1 + 50) (N := 50) (by omega) (by omega)
  have t4 := tmodK_pos (x := r2 + 100) (N := 100) (by omega) (by omega)
  obtain ⟨f1, hf1⟩ : ∃ r, Int.tmod (r1 + 50) 50 = r := ⟨_, rfl⟩
  obtain ⟨f2, hf2⟩ : ∃ r, Int.tmod (r2 + 100) 100 = r := ⟨_, rfl⟩
  rw [hf1] at t3
  rw [hf2] at t4
  have u1 : IntKind.i64.wrap (r1 + 50) = r1 + 50 := IntWalk.i64_in _ (by omega)
  have u2 : IntKind.i64.wrap (r2 + 100) = r2 + 100 := IntWalk.i64_in _ (by omega)
  have u3 : IntKind.i64.wrap r1 = r1 := IntWalk.i64_in _ (by omega)
  have u4 : IntKind.i64.wrap r2 = r2 := IntWalk.i64_in _ (by omega)
  have u5 : IntKind.i64.wrap f1 = f1 := IntWalk.i64_in _ (by omega)
  have u6 : IntKind.i64.wrap f2 = f2 := IntWalk.i64_in _ (by omega)
  obtain ⟨sp, hsp⟩ : ∃ q : Int, 1 + f1 = q := ⟨_, rfl⟩
  obtain ⟨gp, hgp⟩ : ∃ q : Int, 1 + f2 = q := ⟨_, rfl⟩
  have u7 : IntKind.i64.wrap (1 + f1) = sp := by rw [IntWalk.i64_in _ (by omega)]; exact hsp
  have u8 : IntKind.i64.wrap (1 + f2) = gp := by rw [IntWalk.i64_in _ (by omega)]; exact hgp
  have u9 : IntKind.i64.wrap (10 + gp) = 10 + gp := IntWalk.i64_in _ (by omega)
  have hsp1 : 1 ≤ sp ∧ sp ≤ 50 := by omega
  have hgp1 : 1 ≤ gp ∧ gp ≤ 100 := by omega
  clear hsp hgp
  have hO : cOpen.length ≤ 8 := num_len 1 (by omega)
  have hok0 : (Mc.new sp).Ok := Mc.new_ok (by omega)
  have hok1 : (x1M sp).Ok := by have := (apply_ok (ix := 10) (b := cOpen) hok0).1; rwa [x1_eq] at this
  have hok2 : (x2M sp gp).Ok := by have := (apply_ok (ix := 10 + gp) (b := cPut 10 1 [5]) hok1).1; rwa [x2_eq hgp1] at this
  have hp5 := cPut_len 10 1 [5] (by omega) (by omega) (by simp)
  simp only [List.length_cons, List.length_nil] at hp5
  have hA1 := fun (w : World) (L' : List HP) (p : Nat) (A : Option Addr) (c : Nat) (hs : Sat w0 w (MR p (Mc.new sp) :: L')) (h : Rd w0 L' A cOpen.length 1 (B8 cOpen)) => apply_spec (c := c) 10 cOpen hok0 (by simp [Mc.new]) (by omega) hs h
  have hA2 := fun (w : World) (L' : List HP) (p : Nat) (A : Option Addr) (c : Nat) (hs : Sat w0 w (MR p (x1M sp) :: L')) (h : Rd w0 L' A (cPut 10 1 [5]).length 1 (B8 (cPut 10 1 [5]))) => apply_spec (c := c) (10 + gp) (cPut 10 1 [5]) hok1 (by simp [x1M]) (by omega) hs h
  have hN := fun (w : World) (L' : List HP) (p : Nat) (hs : Sat w0 w (MR p (x2M sp gp) :: L')) => nextMR_spec hok2 hs
  have hPt := fun (w : World) (L' : List HP) (hs : Sat w0 w L') => lput_spec 10 1 5 5 rfl hs
  have hOp := fun (w : World) (L' : List HP) (hs : Sat w0 w L') => openM_spec hs
  rw [show (putC 10 1 [5]).1 = cPut 10 1 [5] from rfl] at hPt
  rw [x1_eq] at hA1
  rw [x2_eq hgp1] at hA2
  unfold RetTold at hA1 hA2
  simp only at hA1 hA2
  obtain ⟨c5, hc5⟩ : ∃ z, cPut 10 1 [5] = z := ⟨_, rfl⟩
  obtain ⟨co, hco⟩ : ∃ z, cOpen = z := ⟨_, rfl⟩
  rw [hc5] at hA2 hPt
  rw [hco] at hA1 hOp
  clear hc5 hco hO hp5 hok0 hok1 hok2
  by_cases hge : sp ≤ gp
  · have hSe := fun (w : World) (L' : List HP) (p : Nat) (hs : Sat w0 w (MR p (x2M sp gp) :: L')) => sessionsMR_nil (M := x2M sp gp) (by unfold x2M; rw [if_pos hge]) hs
    rw [show (x2M sp gp).st + ((x2M sp gp).l.length : Int) = 0 from by unfold x2M; rw [if_pos hge]; rfl] at hN
    rw [if_pos hge] at hA2
    go_enter Try.func6, Try.ntmps6
    refine wk_seq (fun K0 hK0 => ?_)
    refine wk_reg ?_
    refine pl_take (v := .bool false) rfl ?_ ?_
    · (go_simp; first | done | with_reducible rfl | rfl | omega | assumption | (simp; omega))
    (try simp only [Act.put, aP, aZ, aS])
    refine pl_done ?_
    refine hK0.out _ _ ?_
    (try clear hK0 K0)
    refine wk_seq (fun K1 hK1 => ?_)
    refine wk_reg ?_
    iterate 5 (refine pl_take (v := ?_) rfl ?_ ?_; rotate_left; (· (go_simp; first | done | with_reducible rfl | rfl | omega | assumption | (simp; omega))); (try simp only [Act.put, aP, aZ, aS]))
    refine pl_take (v := ?_) rfl ?_ ?_
    rotate_left
    · (go_simp; first | done | with_reducible rfl | rfl | omega | assumption | (simp; omega))
    (try simp only [Act.put, aP, aZ])
    refine pl_done ?_
    refine hK1.out _ _ ?_
    (try clear hK1 K1)
    refine wk_seq (fun K2 hK2 => ?_)
    refine wk_reg ?_
    iterate 6 (refine pl_take (v := ?_) rfl ?_ ?_; rotate_left; (· (go_simp; first | done | with_reducible rfl | rfl | omega | assumption | (simp; omega))); (try simp only [Act.put, aP, aZ, aS]))
    refine pl_done ?_
    refine hK2.out _ _ ?_
    (try clear hK2 K2)
    refine wk_seq (fun K3 hK3 => ?_)
    refine wk_reg ?_
    refine pl_take (v := ?_) rfl ?_ ?_
    rotate_left
    · (go_simp; first | done | with_reducible rfl | rfl | omega | assumption | (simp; omega))
    (try simp only [Act.put, aP, aZ, aS])
    refine pl_eff rfl (fun Kp hKp => ?_)
    go_simp
    (refine (newM_spec sp (by omega) (by assumption)).mono ?_; rintro e23 w23 ⟨p, rfl, hs23⟩)
    (try go_wp2_with fail)
    refine hKp.out _ _ ?_
    clear hKp Kp
    (try simp only [Act.put, aP, aZ, aS])
    iterate 5 (refine pl_take (v := ?_) rfl ?_ ?_; rotate_left; (· (go_simp; first | done | with_reducible rfl | rfl | omega | assumption | (simp; omega))); (try simp only [Act.put, aP, aZ, aS]))
    refine pl_done ?_
    refine hK3.out _ _ ?_
    (try clear hK3 K3)
    refine wk_seq (fun K4 hK4 => ?_)
    refine wk_seq (fun K5 hK5 => ?_)
    refine wk_reg ?_
    refine pl_take (v := ?_) rfl ?_ ?_
    rotate_left
    · (go_simp; first | done | with_reducible rfl | rfl | omega | assumption | (simp; omega))
    (try simp only [Act.put, aP, aZ, aS])
    refine pl_eff rfl (fun Kp hKp => ?_)
    go_simp
    ((refine (numL_spec _ (by assumption)).mono ?_); rintro e27 w27 ⟨rfl, hs27⟩)
    (try go_wp2_with fail)
    refine hKp.out _ _ ?_
    clear hKp Kp
    (try simp only [Act.put, aP, aZ, aS])
    iterate 2 (refine pl_take (v := .bool false) rfl ?_ ?_; (· (go_simp; first | done | with_reducible rfl | rfl | omega | assumption | (simp; omega))); (try simp only [Act.put, aP, aZ, aS]))
    refine pl_take (v := ?_) (by kernel_rfl) ?_ ?_
    rotate_left
    · (go_simp; first | done | with_reducible rfl | rfl | omega | assumption | (simp; omega))
    (try simp only [Act.put, aP, aZ, aS])
    refine pl_take (v := .bool false) (by kernel_rfl) ?_ ?_
    · (go_simp; first | done | with_reducible rfl | rfl | omega | assumption | (simp; omega))
    (try simp only [Act.put, aP, aZ, aS])
    iterate 2 (refine pl_take (v := .bool false) rfl ?_ ?_; (· (go_simp; first | done | with_reducible rfl | rfl | omega | assumption | (simp; omega))); (try simp only [Act.put, aP, aZ, aS]))
    refine pl_eff (by kernel_rfl) (fun Kp hKp => ?_)
    go_simp
    (refine (knows08_spec (by assumption)).mono ?_; rintro e34 w34 ⟨rfl, hs34⟩)
    (try go_wp2_with fail)
    refine hKp.out _ _ ?_
    clear hKp Kp
    (try simp only [Act.put, aP, aZ, aS])
    refine pl_take (v := .bool false) (by kernel_rfl) ?_ ?_
    · (go_simp; first | done | with_reducible rfl | rfl | omega | assumption | (simp; omega))
    (try simp only [Act.put, aP, aZ, aS])
    refine pl_take (v := .bool false) rfl ?_ ?_
    · (go_simp; first | done | with_reducible rfl | rfl | omega | assumption | (simp; omega))
    (try simp only [Act.put, aP, aZ, aS])
    refine pl_done ?_
    refine hK5.out _ _ ?_
    (try clear hK5 K5)
    refine wp_cond_false rfl ?_
    refine wp_skip ?_
    refine hK4.out _ _ ?_
    (try clear hK4 K4)
    refine wk_seq (fun K7 hK7 => ?_)
    refine wk_reg ?_
    refine pl_take (v := ?_) rfl ?_ ?_
    rotate_left
    · (go_simp; first | done | with_reducible rfl | rfl | omega | assumption | (simp; omega))
    (try simp only [Act.put, aP, aZ, aS])
    refine pl_eff rfl (fun Kp hKp => ?_)
    go_simp
    (refine (hOp _ _ (by assumption)).mono ?_; rintro e39 w39 ⟨B39, c39, rfl, hs39⟩)
    (try go_wp2_with fail)
    refine hKp.out _ _ ?_
    clear hKp Kp
    (try simp only [Act.put, aP, aZ, aS])
    refine pl_eff rfl (fun Kp hKp => ?_)
    go_simp
    (refine (hA1 _ _ _ _ _ ((by assumption : Sat w0 _ _).pick (.cons (by (repeat (first | with_reducible exact Out.here _ | apply Out.there))) (.tail _))) (by (repeat (first | with_reducible assumption | with_reducible exact Rd.own | with_reducible exact Rd.nil | with_reducible apply Rd.cons)))).mono ?_; rintro e40 w40 ⟨rfl, hs40⟩)
    (try go_wp2_with fail)
    refine hKp.out _ _ ?_
    clear hKp Kp
    (try simp only [Act.put, aP, aZ, aS])
    iterate 3 (refine pl_take (v := ?_) rfl ?_ ?_; rotate_left; (· (go_simp; first | done | with_reducible rfl | rfl | omega | assumption | (simp; omega))); (try simp only [Act.put, aP, aZ, aS]))
    refine pl_eff rfl (fun Kp hKp => ?_)
    ((with_reducible apply st_alloc); assumption; intro b7 w7 hs7; simp only [Value.cells] at hs7)
    refine hKp.out _ _ ?_
    clear hKp Kp
    (try simp only [Act.put, aP, aZ, aS])
    refine pl_eff rfl (fun Kp hKp => ?_)
    (first | ((with_reducible apply st_storeAll); assumption; rfl; (go_simp; rfl); (repeat (first | with_reducible exact Out.here _ | apply Out.there)); rfl; (focus (first | (simp [Value.oneCell']; done) | (simp [Value.cells, Value.oneCell']; done))); rfl; intro wr6_7 hsr6_7; simp only [Value.cells] at hsr6_7) | ((with_reducible apply st_store); assumption; rfl; (go_simp; rfl); (repeat (first | with_reducible exact Out.here _ | apply Out.there)); rfl; (first | (focus (simp [Value.oneCell']; done)) | (simp [Value.cells, Value.oneCell'])); (first | (focus (simp; done)) | (simp [Value.cells])); intro wr6_7 hsr6_7; simp only [upd, Value.cells] at hsr6_7))
    refine hKp.out _ _ ?_
    clear hKp Kp
    (try dsimp only [Act.put])
    refine pl_take (v := ?_) rfl ?_ ?_
    rotate_left
    · (go_simp; first | done | with_reducible rfl | rfl | omega | assumption | (simp; omega))
    (try simp only [Act.put, aP, aZ, aS])
    refine pl_done ?_
    refine hK7.out _ _ ?_
    (try clear hK7 K7)
    refine wk_seq (fun K8 hK8 => ?_)
    refine wk_reg ?_
    iterate 3 (refine pl_take (v := ?_) rfl ?_ ?_; rotate_left; (· (go_simp; first | done | with_reducible rfl | rfl | omega | assumption | (simp; omega))); (try simp only [Act.put, aP, aZ, aS]))
    refine pl_eff rfl (fun Kp hKp => ?_)
    go_simp
    (refine (hPt _ _ (by assumption)).mono ?_; rintro e47 w47 ⟨B47, c47, rfl, hs47⟩)
    (try go_wp2_with fail)
    refine hKp.out _ _ ?_
    clear hKp Kp
    (try simp only [Act.put, aP, aZ, aS])
    refine pl_eff rfl (fun Kp hKp => ?_)
    go_simp
    (refine (hA2 _ _ _ _ _ ((by assumption : Sat w0 _ _).pick (.cons (by (repeat (first | with_reducible exact Out.here _ | apply Out.there))) (.tail _))) (by (repeat (first | with_reducible assumption | with_reducible exact Rd.own | with_reducible exact Rd.nil | with_reducible apply Rd.cons)))).mono ?_; rintro e48 w48 ⟨rfl, hs48⟩)
    (try go_wp2_with fail)
    refine hKp.out _ _ ?_
    clear hKp Kp
    (try simp only [Act.put, aP, aZ, aS])
    iterate 3 (refine pl_take (v := ?_) rfl ?_ ?_; rotate_left; (· (go_simp; first | done | with_reducible rfl | rfl | omega | assumption | (simp; omega))); (try simp only [Act.put, aP, aZ, aS]))
    refine pl_eff rfl (fun Kp hKp => ?_)
    ((with_reducible apply st_alloc); assumption; intro b9 w9 hs9; simp only [Value.cells] at hs9)
    refine hKp.out _ _ ?_
    clear hKp Kp
    (try simp only [Act.put, aP, aZ, aS])
    refine pl_eff rfl (fun Kp hKp => ?_)
    (first | ((with_reducible apply st_storeAll); assumption; rfl; (go_simp; rfl); (repeat (first | with_reducible exact Out.here _ | apply Out.there)); rfl; (focus (first | (simp [Value.oneCell']; done) | (simp [Value.cells, Value.oneCell']; done))); rfl; intro wr7_9 hsr7_9; simp only [Value.cells] at hsr7_9) | ((with_reducible apply st_store); assumption; rfl; (go_simp; rfl); (repeat (first | with_reducible exact Out.here _ | apply Out.there)); rfl; (first | (focus (simp [Value.oneCell']; done)) | (simp [Value.cells, Value.oneCell'])); (first | (focus (simp; done)) | (simp [Value.cells])); intro wr7_9 hsr7_9; simp only [upd, Value.cells] at hsr7_9))
    refine hKp.out _ _ ?_
    clear hKp Kp
    (try dsimp only [Act.put])
    refine pl_take (v := ?_) rfl ?_ ?_
    rotate_left
    · (go_simp; first | done | with_reducible rfl | rfl | omega | assumption | (simp; omega))
    (try simp only [Act.put, aP, aZ, aS])
    refine pl_done ?_
    refine hK8.out _ _ ?_
    (try clear hK8 K8)
    refine wk_seq (fun K9 hK9 => ?_)
    refine wk_seq (fun K10 hK10 => ?_)
    refine rg_start rfl (by assumption) (fun wr8 hsr8 => ?_)
    refine rg_take (i := 0) (v := ?_) rfl (by kernel_rfl) (by kernel_rfl) (by kernel_rfl) (fun _ _ _ h => h) rfl (by assumption) ?_ ?_
    rotate_left
    · intro w hSw; (go_simp; first | done | with_reducible rfl | rfl | omega | assumption | (simp; omega))
    (try simp only [Act.put, aP, aZ, aS])
    refine rg_take (i := 2) (v := ?_) rfl (by kernel_rfl) (by kernel_rfl) (by kernel_rfl) (fun _ _ _ h => h) rfl (by assumption) ?_ ?_
    rotate_left
    · intro w hSw; (go_simp; first | done | with_reducible rfl | rfl | omega | assumption | (simp; omega))
    (try simp only [Act.put, aP, aZ, aS])
    refine rg_take (i := 5) (v := ?_) rfl (by kernel_rfl) (by kernel_rfl) (by kernel_rfl) (fun _ _ _ h => h) rfl (by assumption) ?_ ?_
    rotate_left
    · intro w hSw; (go_simp; first | done | with_reducible rfl | rfl | omega | assumption | (simp; omega))
    (try simp only [Act.put, aP, aZ, aS])
    refine rg_take (i := 6) (v := ?_) rfl (by kernel_rfl) (by kernel_rfl) (by kernel_rfl) (fun _ _ _ h => h) rfl (by assumption) ?_ ?_
    rotate_left
    · intro w hSw; ((with_reducible apply yl_load); assumption; rfl; (repeat (first | with_reducible assumption | ((with_reducible apply Cl.own); exact rfl) | ((with_reducible apply Cl.blkL); exact rfl) | with_reducible apply Cl.cons)); rfl)
    (try simp only [Act.put, aP, aZ, aS])
    refine rg_one (i := 1) (by kernel_rfl) rfl rfl (fun Kp hKp => ?_)
    go_simp
    ((refine (numL_spec _ (by assumption)).mono ?_); rintro e52 w52 ⟨rfl, hs52⟩)
    (try go_wp2_with fail)
    refine rg_back (hK := hKp) ?_ (fun hsk52 => ?_)
    · (first | assumption | (apply Sat.drew; assumption) | (apply Sat.pick; assumption; (repeat (first | exact Pick.nil _ | with_reducible exact Pick.tail _ | with_reducible exact Out.here _ | apply Out.there | apply Pick.cons | apply Pick.drop))))
    clear hKp Kp
    have hsz52 := hs52
    (try simp only [Act.put, aP, aZ, aS])
    refine rg_one (i := 3) (by kernel_rfl) rfl rfl (fun Kp hKp => ?_)
    go_simp
    ((refine (numL_spec _ (by assumption)).mono ?_); rintro e54 w54 ⟨rfl, hs54⟩)
    (try go_wp2_with fail)
    refine rg_back (hK := hKp) ?_ (fun hsk54 => ?_)
    · (first | assumption | (apply Sat.drew; assumption) | (apply Sat.pick; assumption; (repeat (first | exact Pick.nil _ | with_reducible exact Pick.tail _ | with_reducible exact Out.here _ | apply Out.there | apply Pick.cons | apply Pick.drop))))
    clear hKp Kp
    have hsz54 := hs54
    (try simp only [Act.put, aP, aZ, aS])
    refine rg_take (i := 4) (v := ?_) rfl (by kernel_rfl) (by kernel_rfl) (by kernel_rfl) (fun _ _ _ h => h) rfl (by assumption) ?_ ?_
    rotate_left
    · intro w hSw; (go_simp; first | done | with_reducible rfl | rfl | omega | assumption | (simp; omega))
    (try simp only [Act.put, aP, aZ, aS])
    refine rg_one (i := 7) (by kernel_rfl) rfl rfl (fun Kp hKp => ?_)
    go_simp
    ((refine (numL_spec _ (by assumption)).mono ?_); rintro e58 w58 ⟨rfl, hs58⟩)
    (try go_wp2_with fail)
    refine rg_back (hK := hKp) ?_ (fun hsk58 => ?_)
    · (first | assumption | (apply Sat.drew; assumption) | (apply Sat.pick; assumption; (repeat (first | exact Pick.nil _ | with_reducible exact Pick.tail _ | with_reducible exact Out.here _ | apply Out.there | apply Pick.cons | apply Pick.drop))))
    clear hKp Kp
    have hsz58 := hs58
    (try simp only [Act.put, aP, aZ, aS])
    refine rg_take (i := 8) (v := ?_) rfl (by kernel_rfl) (by kernel_rfl) (by kernel_rfl) (fun _ _ _ h => h) rfl (by assumption) ?_ ?_
    rotate_left
    · intro w hSw; (go_simp; first | done | with_reducible rfl | rfl | omega | assumption | (simp; omega))
    (try simp only [Act.put, aP, aZ, aS])
    refine rg_take (i := 9) (v := .bool false) rfl (by kernel_rfl) (by kernel_rfl) (by kernel_rfl) (fun _ _ _ h => h) rfl (by assumption) ?_ ?_
    · intro w hSw; (go_simp; first | done | with_reducible rfl | rfl | omega | assumption | (simp; omega))
    (try simp only [Act.put, aP, aZ, aS])
    refine rg_take (i := 10) (v := .bool false) rfl (by kernel_rfl) (by kernel_rfl) (by kernel_rfl) (fun _ _ _ h => h) rfl (by assumption) ?_ ?_
    · intro w hSw; (go_simp; first | done | with_reducible rfl | rfl | omega | assumption | (simp; omega))
    (try simp only [Act.put, aP, aZ, aS])
    refine rg_take (i := 11) (v := ?_) rfl (by kernel_rfl) (by kernel_rfl) (by kernel_rfl) (fun _ _ _ h => h) (by kernel_rfl) (by assumption) ?_ ?_
    rotate_left
    · intro w hSw; (go_simp; first | done | with_reducible rfl | rfl | omega | assumption | (simp; omega))
    (try simp only [Act.put, aP, aZ, aS])
    refine rg_take (i := 12) (v := ?_) rfl (by kernel_rfl) (by kernel_rfl) (by kernel_rfl) (fun _ _ _ h => h) (by kernel_rfl) (by assumption) ?_ ?_
    rotate_left
    · intro w hSw; ((with_reducible apply yl_load); assumption; rfl; (repeat (first | with_reducible assumption | ((with_reducible apply Cl.own); exact rfl) | ((with_reducible apply Cl.blkL); exact rfl) | with_reducible apply Cl.cons)); rfl)
    (try simp only [Act.put, aP, aZ, aS])
    refine rg_take (i := 13) (v := .bool false) rfl (by kernel_rfl) (by kernel_rfl) (by kernel_rfl) (fun _ _ _ h => h) (by kernel_rfl) (by assumption) ?_ ?_
    · intro w hSw; (go_simp; first | done | with_reducible rfl | rfl | omega | assumption | (simp; omega))
    (try simp only [Act.put, aP, aZ, aS])
    refine rg_take (i := 14) (v := .bool false) rfl (by kernel_rfl) (by kernel_rfl) (by kernel_rfl) (fun _ _ _ h => h) rfl (by assumption) ?_ ?_
    · intro w hSw; (go_simp; first | done | with_reducible rfl | rfl | omega | assumption | (simp; omega))
    (try simp only [Act.put, aP, aZ, aS])
    refine rg_done (by kernel_rfl) ?_
    refine hK10.out _ _ ?_
    (try clear hK10 K10)
    refine wp_cond_false rfl ?_
    refine wp_skip ?_
    refine hK9.out _ _ ?_
    (try clear hK9 K9)
    refine wk_seq (fun K12 hK12 => ?_)
    refine wk_seq (fun K13 hK13 => ?_)
    refine wk_reg ?_
    iterate 2 (refine pl_take (v := ?_) rfl ?_ ?_; rotate_left; (· (go_simp; first | done | with_reducible rfl | rfl | omega | assumption | (simp; omega))); (try simp only [Act.put, aP, aZ, aS]))
    refine pl_take (v := .bool true) rfl ?_ ?_
    · (go_simp; first | done | with_reducible rfl | rfl | omega | assumption | (simp; omega))
    (try simp only [Act.put, aP, aZ, aS])
    refine pl_done ?_
    refine hK13.out _ _ ?_
    (try clear hK13 K13)
    refine wp_cond_true rfl ?_
    refine wk_seq (fun K14 hK14 => ?_)
    refine wk_reg ?_
    iterate 2 (refine pl_take (v := ?_) rfl ?_ ?_; rotate_left; (· (first | ((with_reducible apply yl_load); assumption; rfl; (repeat (first | with_reducible assumption | ((with_reducible apply Cl.own); exact rfl) | ((with_reducible apply Cl.blkL); exact rfl) | with_reducible apply Cl.cons)); rfl) | (go_simp; first | done | with_reducible rfl | rfl | omega | assumption | (simp; omega)))); (try simp only [Act.put, aP, aZ, aS]))
    refine pl_eff rfl (fun Kp hKp => ?_)
    go_simp
    ((refine (numL_spec _ (by assumption)).mono ?_); rintro e71 w71 ⟨rfl, hs71⟩)
    (try go_wp2_with fail)
    refine hKp.out _ _ ?_
    clear hKp Kp
    (try simp only [Act.put, aP, aZ, aS])
    iterate 2 (refine pl_take (v := .bool true) rfl ?_ ?_; (· (go_simp; first | done | with_reducible rfl | rfl | omega | assumption | (simp; omega))); (try simp only [Act.put, aP, aZ, aS]))
    refine pl_take (v := ?_) (by kernel_rfl) ?_ ?_
    rotate_left
    · (go_simp; first | done | with_reducible rfl | rfl | omega | assumption | (simp; omega))
    (try simp only [Act.put, aP, aZ, aS])
    refine pl_eff (by kernel_rfl) (fun Kp hKp => ?_)
    go_simp
    (refine (hN _ _ _ ((by assumption : Sat w0 _ _).pick (.cons (by (repeat (first | with_reducible exact Out.here _ | apply Out.there))) (.tail _)))).mono ?_; rintro e75 w75 ⟨rfl, hs75⟩)
    (try go_wp2_with fail)
    refine hKp.out _ _ ?_
    clear hKp Kp
    (try simp only [Act.put, aP, aZ, aS])
    refine pl_take (v := .bool true) (by kernel_rfl) ?_ ?_
    · (go_simp; first | done | with_reducible rfl | rfl | omega | assumption | (simp; omega))
    (try simp only [Act.put, aP, aZ, aS])
    iterate 2 (refine pl_take (v := .bool true) rfl ?_ ?_; (· (go_simp; first | done | with_reducible rfl | rfl | omega | assumption | (simp; omega))); (try simp only [Act.put, aP, aZ, aS]))
    refine pl_take (v := ?_) (by kernel_rfl) ?_ ?_
    rotate_left
    · (go_simp; first | done | with_reducible rfl | rfl | omega | assumption | (simp; omega))
    (try simp only [Act.put, aP, aZ, aS])
    refine pl_eff (by kernel_rfl) (fun Kp hKp => ?_)
    go_simp
    (refine (hSe _ _ _ ((by assumption : Sat w0 _ _).pick (.cons (by (repeat (first | with_reducible exact Out.here _ | apply Out.there))) (.tail _)))).mono ?_; rintro e80 w80 ⟨A80, c80, rfl, hs80⟩)
    (try go_wp2_with fail)
    refine hKp.out _ _ ?_
    clear hKp Kp
    (try simp only [Act.put, aP, aZ, aS])
    refine pl_take (v := ?_) (by kernel_rfl) ?_ ?_
    rotate_left
    · (go_simp; first | done | with_reducible rfl | rfl | omega | assumption | (simp; omega))
    (try simp only [Act.put, aP, aZ, aS])
    refine pl_take (v := .bool true) (by kernel_rfl) ?_ ?_
    · (go_simp; first | done | with_reducible rfl | rfl | omega | assumption | (simp; omega))
    (try simp only [Act.put, aP, aZ, aS])
    iterate 2 (refine pl_take (v := .bool true) rfl ?_ ?_; (· (go_simp; first | done | with_reducible rfl | rfl | omega | assumption | (simp; omega))); (try simp only [Act.put, aP, aZ, aS]))
    refine pl_done ?_
    refine hK14.out _ _ ?_
    (try clear hK14 K14)
    refine wp_ret ?_
    go_ret
    exact ⟨rfl, (by assumption : Sat w0 _ _).pick (by (repeat (first | exact Pick.nil _ | exact Pick.tail _ | exact Out.here _ | apply Out.there | apply Pick.cons | apply Pick.drop)))⟩
  · have hSe := fun (w : World) (L' : List HP) (p : Nat) (hs : Sat w0 w (MR p (x2M sp gp) :: L')) => sessionsMR_one (M := x2M sp gp) (k := 10) (s := ⟨1, 0, 10 + gp⟩) (by unfold x2M; rw [if_neg hge]) hs
    rw [show (x2M sp gp).st + ((x2M sp gp).l.length : Int) = 1 from by unfold x2M; rw [if_neg hge]; rfl] at hN
    rw [if_neg hge] at hA2
    go_enter Try.func6, Try.ntmps6
    refine wk_seq (fun K0 hK0 => ?_)
    refine wk_reg ?_
    refine pl_take (v := .bool false) rfl ?_ ?_
    · (go_simp; first | done | with_reducible rfl | rfl | omega | assumption | (simp; omega))
    (try simp only [Act.put, aP, aZ, aS])
    refine pl_done ?_
    refine hK0.out _ _ ?_
    (try clear hK0 K0)
    refine wk_seq (fun K1 hK1 => ?_)
    refine wk_reg ?_
    iterate 5 (refine pl_take (v := ?_) rfl ?_ ?_; rotate_left; (· (go_simp; first | done | with_reducible rfl | rfl | omega | assumption | (simp; omega))); (try simp only [Act.put, aP, aZ, aS]))
    refine pl_take (v := ?_) rfl ?_ ?_
    rotate_left
    · (go_simp; first | done | with_reducible rfl | rfl | omega | assumption | (simp; omega))
    (try simp only [Act.put, aP, aZ])
    refine pl_done ?_
    refine hK1.out _ _ ?_
    (try clear hK1 K1)
    refine wk_seq (fun K2 hK2 => ?_)
    refine wk_reg ?_
    iterate 6 (refine pl_take (v := ?_) rfl ?_ ?_; rotate_left; (· (go_simp; first | done | with_reducible rfl | rfl | omega | assumption | (simp; omega))); (try simp only [Act.put, aP, aZ, aS]))
    refine pl_done ?_
    refine hK2.out _ _ ?_
    (try clear hK2 K2)
    refine wk_seq (fun K3 hK3 => ?_)
    refine wk_reg ?_
    refine pl_take (v := ?_) rfl ?_ ?_
    rotate_left
    · (go_simp; first | done | with_reducible rfl | rfl | omega | assumption | (simp; omega))
    (try simp only [Act.put, aP, aZ, aS])
    refine pl_eff rfl (fun Kp hKp => ?_)
    go_simp
    (refine (newM_spec sp (by omega) (by assumption)).mono ?_; rintro e23 w23 ⟨p, rfl, hs23⟩)
    (try go_wp2_with fail)
    refine hKp.out _ _ ?_
    clear hKp Kp
    (try simp only [Act.put, aP, aZ, aS])
    iterate 5 (refine pl_take (v := ?_) rfl ?_ ?_; rotate_left; (· (go_simp; first | done | with_reducible rfl | rfl | omega | assumption | (simp; omega))); (try simp only [Act.put, aP, aZ, aS]))
    refine pl_done ?_
    refine hK3.out _ _ ?_
    (try clear hK3 K3)
    refine wk_seq (fun K4 hK4 => ?_)
    refine wk_seq (fun K5 hK5 => ?_)
    refine wk_reg ?_
    refine pl_take (v := ?_) rfl ?_ ?_
    rotate_left
    · (go_simp; first | done | with_reducible rfl | rfl | omega | assumption | (simp; omega))
    (try simp only [Act.put, aP, aZ, aS])
    refine pl_eff rfl (fun Kp hKp => ?_)
    go_simp
    ((refine (numL_spec _ (by assumption)).mono ?_); rintro e27 w27 ⟨rfl, hs27⟩)
    (try go_wp2_with fail)
    refine hKp.out _ _ ?_
    clear hKp Kp
    (try simp only [Act.put, aP, aZ, aS])
    iterate 2 (refine pl_take (v := .bool false) rfl ?_ ?_; (· (go_simp; first | done | with_reducible rfl | rfl | omega | assumption | (simp; omega))); (try simp only [Act.put, aP, aZ, aS]))
    refine pl_take (v := ?_) (by kernel_rfl) ?_ ?_
    rotate_left
    · (go_simp; first | done | with_reducible rfl | rfl | omega | assumption | (simp; omega))
    (try simp only [Act.put, aP, aZ, aS])
    refine pl_take (v := .bool false) (by kernel_rfl) ?_ ?_
    · (go_simp; first | done | with_reducible rfl | rfl | omega | assumption | (simp; omega))
    (try simp only [Act.put, aP, aZ, aS])
    iterate 2 (refine pl_take (v := .bool false) rfl ?_ ?_; (· (go_simp; first | done | with_reducible rfl | rfl | omega | assumption | (simp; omega))); (try simp only [Act.put, aP, aZ, aS]))
    refine pl_eff (by kernel_rfl) (fun Kp hKp => ?_)
    go_simp
    (refine (knows08_spec (by assumption)).mono ?_; rintro e34 w34 ⟨rfl, hs34⟩)
    (try go_wp2_with fail)
    refine hKp.out _ _ ?_
    clear hKp Kp
    (try simp only [Act.put, aP, aZ, aS])
    refine pl_take (v := .bool false) (by kernel_rfl) ?_ ?_
    · (go_simp; first | done | with_reducible rfl | rfl | omega | assumption | (simp; omega))
    (try simp only [Act.put, aP, aZ, aS])
    refine pl_take (v := .bool false) rfl ?_ ?_
    · (go_simp; first | done | with_reducible rfl | rfl | omega | assumption | (simp; omega))
    (try simp only [Act.put, aP, aZ, aS])
    refine pl_done ?_
    refine hK5.out _ _ ?_
    (try clear hK5 K5)
    refine wp_cond_false rfl ?_
    refine wp_skip ?_
    refine hK4.out _ _ ?_
    (try clear hK4 K4)
    refine wk_seq (fun K7 hK7 => ?_)
    refine wk_reg ?_
    refine pl_take (v := ?_) rfl ?_ ?_
    rotate_left
    · (go_simp; first | done | with_reducible rfl | rfl | omega | assumption | (simp; omega))
    (try simp only [Act.put, aP, aZ, aS])
    refine pl_eff rfl (fun Kp hKp => ?_)
    go_simp
    (refine (hOp _ _ (by assumption)).mono ?_; rintro e39 w39 ⟨B39, c39, rfl, hs39⟩)
    (try go_wp2_with fail)
    refine hKp.out _ _ ?_
    clear hKp Kp
    (try simp only [Act.put, aP, aZ, aS])
    refine pl_eff rfl (fun Kp hKp => ?_)
    go_simp
    (refine (hA1 _ _ _ _ _ ((by assumption : Sat w0 _ _).pick (.cons (by (repeat (first | with_reducible exact Out.here _ | apply Out.there))) (.tail _))) (by (repeat (first | with_reducible assumption | with_reducible exact Rd.own | with_reducible exact Rd.nil | with_reducible apply Rd.cons)))).mono ?_; rintro e40 w40 ⟨rfl, hs40⟩)
    (try go_wp2_with fail)
    refine hKp.out _ _ ?_
    clear hKp Kp
    (try simp only [Act.put, aP, aZ, aS])
    iterate 3 (refine pl_take (v := ?_) rfl ?_ ?_; rotate_left; (· (go_simp; first | done | with_reducible rfl | rfl | omega | assumption | (simp; omega))); (try simp only [Act.put, aP, aZ, aS]))
    refine pl_eff rfl (fun Kp hKp => ?_)
    ((with_reducible apply st_alloc); assumption; intro b7 w7 hs7; simp only [Value.cells] at hs7)
    refine hKp.out _ _ ?_
    clear hKp Kp
    (try simp only [Act.put, aP, aZ, aS])
    refine pl_eff rfl (fun Kp hKp => ?_)
    (first | ((with_reducible apply st_storeAll); assumption; rfl; (go_simp; rfl); (repeat (first | with_reducible exact Out.here _ | apply Out.there)); rfl; (focus (first | (simp [Value.oneCell']; done) | (simp [Value.cells, Value.oneCell']; done))); rfl; intro wr6_7 hsr6_7; simp only [Value.cells] at hsr6_7) | ((with_reducible apply st_store); assumption; rfl; (go_simp; rfl); (repeat (first | with_reducible exact Out.here _ | apply Out.there)); rfl; (first | (focus (simp [Value.oneCell']; done)) | (simp [Value.cells, Value.oneCell'])); (first | (focus (simp; done)) | (simp [Value.cells])); intro wr6_7 hsr6_7; simp only [upd, Value.cells] at hsr6_7))
    refine hKp.out _ _ ?_
    clear hKp Kp
    (try dsimp only [Act.put])
    refine pl_take (v := ?_) rfl ?_ ?_
    rotate_left
    · (go_simp; first | done | with_reducible rfl | rfl | omega | assumption | (simp; omega))
    (try simp only [Act.put, aP, aZ, aS])
    refine pl_done ?_
    refine hK7.out _ _ ?_
    (try clear hK7 K7)
    refine wk_seq (fun K8 hK8 => ?_)
    refine wk_reg ?_
    iterate 3 (refine pl_take (v := ?_) rfl ?_ ?_; rotate_left; (· (go_simp; first | done | with_reducible rfl | rfl | omega | assumption | (simp; omega))); (try simp only [Act.put, aP, aZ, aS]))
    refine pl_eff rfl (fun Kp hKp => ?_)
    go_simp
    (refine (hPt _ _ (by assumption)).mono ?_; rintro e47 w47 ⟨B47, c47, rfl, hs47⟩)
    (try go_wp2_with fail)
    refine hKp.out _ _ ?_
    clear hKp Kp
    (try simp only [Act.put, aP, aZ, aS])
    refine pl_eff rfl (fun Kp hKp => ?_)
    go_simp
    (refine (hA2 _ _ _ _ _ ((by assumption : Sat w0 _ _).pick (.cons (by (repeat (first | with_reducible exact Out.here _ | apply Out.there))) (.tail _))) (by (repeat (first | with_reducible assumption | with_reducible exact Rd.own | with_reducible exact Rd.nil | with_reducible apply Rd.cons)))).mono ?_; rintro e48 w48 ⟨rfl, hs48⟩)
    (try go_wp2_with fail)
    refine hKp.out _ _ ?_
    clear hKp Kp
    (try simp only [Act.put, aP, aZ, aS])
    iterate 3 (refine pl_take (v := ?_) rfl ?_ ?_; rotate_left; (· (go_simp; first | done | with_reducible rfl | rfl | omega | assumption | (simp; omega))); (try simp only [Act.put, aP, aZ, aS]))
    refine pl_eff rfl (fun Kp hKp => ?_)
    ((with_reducible apply st_alloc); assumption; intro b9 w9 hs9; simp only [Value.cells] at hs9)
    refine hKp.out _ _ ?_
    clear hKp Kp
    (try simp only [Act.put, aP, aZ, aS])
    refine pl_eff rfl (fun Kp hKp => ?_)
    (first | ((with_reducible apply st_storeAll); assumption; rfl; (go_simp; rfl); (repeat (first | with_reducible exact Out.here _ | apply Out.there)); rfl; (focus (first | (simp [Value.oneCell']; done) | (simp [Value.cells, Value.oneCell']; done))); rfl; intro wr7_9 hsr7_9; simp only [Value.cells] at hsr7_9) | ((with_reducible apply st_store); assumption; rfl; (go_simp; rfl); (repeat (first | with_reducible exact Out.here _ | apply Out.there)); rfl; (first | (focus (simp [Value.oneCell']; done)) | (simp [Value.cells, Value.oneCell'])); (first | (focus (simp; done)) | (simp [Value.cells])); intro wr7_9 hsr7_9; simp only [upd, Value.cells] at hsr7_9))
    refine hKp.out _ _ ?_
    clear hKp Kp
    (try dsimp only [Act.put])
    refine pl_take (v := ?_) rfl ?_ ?_
    rotate_left
    · (go_simp; first | done | with_reducible rfl | rfl | omega | assumption | (simp; omega))
    (try simp only [Act.put, aP, aZ, aS])
    refine pl_done ?_
    refine hK8.out _ _ ?_
    (try clear hK8 K8)
    refine wk_seq (fun K9 hK9 => ?_)
    refine wk_seq (fun K10 hK10 => ?_)
    refine rg_start rfl (by assumption) (fun wr8 hsr8 => ?_)
    refine rg_take (i := 0) (v := ?_) rfl (by kernel_rfl) (by kernel_rfl) (by kernel_rfl) (fun _ _ _ h => h) rfl (by assumption) ?_ ?_
    rotate_left
    · intro w hSw; (go_simp; first | done | with_reducible rfl | rfl | omega | assumption | (simp; omega))
    (try simp only [Act.put, aP, aZ, aS])
    refine rg_take (i := 2) (v := ?_) rfl (by kernel_rfl) (by kernel_rfl) (by kernel_rfl) (fun _ _ _ h => h) rfl (by assumption) ?_ ?_
    rotate_left
    · intro w hSw; (go_simp; first | done | with_reducible rfl | rfl | omega | assumption | (simp; omega))
    (try simp only [Act.put, aP, aZ, aS])
    refine rg_take (i := 5) (v := ?_) rfl (by kernel_rfl) (by kernel_rfl) (by kernel_rfl) (fun _ _ _ h => h) rfl (by assumption) ?_ ?_
    rotate_left
    · intro w hSw; (go_simp; first | done | with_reducible rfl | rfl | omega | assumption | (simp; omega))
    (try simp only [Act.put, aP, aZ, aS])
    refine rg_take (i := 6) (v := ?_) rfl (by kernel_rfl) (by kernel_rfl) (by kernel_rfl) (fun _ _ _ h => h) rfl (by assumption) ?_ ?_
    rotate_left
    · intro w hSw; ((with_reducible apply yl_load); assumption; rfl; (repeat (first | with_reducible assumption | ((with_reducible apply Cl.own); exact rfl) | ((with_reducible apply Cl.blkL); exact rfl) | with_reducible apply Cl.cons)); rfl)
    (try simp only [Act.put, aP, aZ, aS])
    refine rg_one (i := 1) (by kernel_rfl) rfl rfl (fun Kp hKp => ?_)
    go_simp
    ((refine (numL_spec _ (by assumption)).mono ?_); rintro e52 w52 ⟨rfl, hs52⟩)
    (try go_wp2_with fail)
    refine rg_back (hK := hKp) ?_ (fun hsk52 => ?_)
    · (first | assumption | (apply Sat.drew; assumption) | (apply Sat.pick; assumption; (repeat (first | exact Pick.nil _ | with_reducible exact Pick.tail _ | with_reducible exact Out.here _ | apply Out.there | apply Pick.cons | apply Pick.drop))))
    clear hKp Kp
    have hsz52 := hs52
    (try simp only [Act.put, aP, aZ, aS])
    refine rg_one (i := 3) (by kernel_rfl) rfl rfl (fun Kp hKp => ?_)
    go_simp
    ((refine (numL_spec _ (by assumption)).mono ?_); rintro e54 w54 ⟨rfl, hs54⟩)
    (try go_wp2_with fail)
    refine rg_back (hK := hKp) ?_ (fun hsk54 => ?_)
    · (first | assumption | (apply Sat.drew; assumption) | (apply Sat.pick; assumption; (repeat (first | exact Pick.nil _ | with_reducible exact Pick.tail _ | with_reducible exact Out.here _ | apply Out.there | apply Pick.cons | apply Pick.drop))))
    clear hKp Kp
    have hsz54 := hs54
    (try simp only [Act.put, aP, aZ, aS])
    refine rg_take (i := 4) (v := ?_) rfl (by kernel_rfl) (by kernel_rfl) (by kernel_rfl) (fun _ _ _ h => h) rfl (by assumption) ?_ ?_
    rotate_left
    · intro w hSw; (go_simp; first | done | with_reducible rfl | rfl | omega | assumption | (simp; omega))
    (try simp only [Act.put, aP, aZ, aS])
    refine rg_one (i := 7) (by kernel_rfl) rfl rfl (fun Kp hKp => ?_)
    go_simp
    ((refine (numL_spec _ (by assumption)).mono ?_); rintro e58 w58 ⟨rfl, hs58⟩)
    (try go_wp2_with fail)
    refine rg_back (hK := hKp) ?_ (fun hsk58 => ?_)
    · (first | assumption | (apply Sat.drew; assumption) | (apply Sat.pick; assumption; (repeat (first | exact Pick.nil _ | with_reducible exact Pick.tail _ | with_reducible exact Out.here _ | apply Out.there | apply Pick.cons | apply Pick.drop))))
    clear hKp Kp
    have hsz58 := hs58
    (try simp only [Act.put, aP, aZ, aS])
    refine rg_take (i := 8) (v := ?_) rfl (by kernel_rfl) (by kernel_rfl) (by kernel_rfl) (fun _ _ _ h => h) rfl (by assumption) ?_ ?_
    rotate_left
    · intro w hSw; (go_simp; first | done | with_reducible rfl | rfl | omega | assumption | (simp; omega))
    (try simp only [Act.put, aP, aZ, aS])
    refine rg_take (i := 9) (v := .bool false) rfl (by kernel_rfl) (by kernel_rfl) (by kernel_rfl) (fun _ _ _ h => h) rfl (by assumption) ?_ ?_
    · intro w hSw; (go_simp; first | done | with_reducible rfl | rfl | omega | assumption | (simp; omega))
    (try simp only [Act.put, aP, aZ, aS])
    refine rg_take (i := 10) (v := .bool false) rfl (by kernel_rfl) (by kernel_rfl) (by kernel_rfl) (fun _ _ _ h => h) rfl (by assumption) ?_ ?_
    · intro w hSw; (go_simp; first | done | with_reducible rfl | rfl | omega | assumption | (simp; omega))
    (try simp only [Act.put, aP, aZ, aS])
    refine rg_take (i := 11) (v := ?_) rfl (by kernel_rfl) (by kernel_rfl) (by kernel_rfl) (fun _ _ _ h => h) (by kernel_rfl) (by assumption) ?_ ?_
    rotate_left
    · intro w hSw; (go_simp; first | done | with_reducible rfl | rfl | omega | assumption | (simp; omega))
    (try simp only [Act.put, aP, aZ, aS])
    refine rg_take (i := 12) (v := ?_) rfl (by kernel_rfl) (by kernel_rfl) (by kernel_rfl) (fun _ _ _ h => h) (by kernel_rfl) (by assumption) ?_ ?_
    rotate_left
    · intro w hSw; ((with_reducible apply yl_load); assumption; rfl; (repeat (first | with_reducible assumption | ((with_reducible apply Cl.own); exact rfl) | ((with_reducible apply Cl.blkL); exact rfl) | with_reducible apply Cl.cons)); rfl)
    (try simp only [Act.put, aP, aZ, aS])
    refine rg_take (i := 13) (v := .bool false) rfl (by kernel_rfl) (by kernel_rfl) (by kernel_rfl) (fun _ _ _ h => h) (by kernel_rfl) (by assumption) ?_ ?_
    · intro w hSw; (go_simp; first | done | with_reducible rfl | rfl | omega | assumption | (simp; omega))
    (try simp only [Act.put, aP, aZ, aS])
    refine rg_take (i := 14) (v := .bool false) rfl (by kernel_rfl) (by kernel_rfl) (by kernel_rfl) (fun _ _ _ h => h) rfl (by assumption) ?_ ?_
    · intro w hSw; (go_simp; first | done | with_reducible rfl | rfl | omega | assumption | (simp; omega))
    (try simp only [Act.put, aP, aZ, aS])
    refine rg_done (by kernel_rfl) ?_
    refine hK10.out _ _ ?_
    (try clear hK10 K10)
    refine wp_cond_false rfl ?_
    refine wp_skip ?_
    refine hK9.out _ _ ?_
    (try clear hK9 K9)
    refine wk_seq (fun K12 hK12 => ?_)
    refine wk_seq (fun K13 hK13 => ?_)
    refine wk_reg ?_
    iterate 2 (refine pl_take (v := ?_) rfl ?_ ?_; rotate_left; (· (go_simp; first | done | with_reducible rfl | rfl | omega | assumption | (simp; omega))); (try simp only [Act.put, aP, aZ, aS]))
    refine pl_take (v := .bool false) rfl ?_ ?_
    · (go_simp; first | done | with_reducible rfl | rfl | omega | assumption | (simp; omega))
    (try simp only [Act.put, aP, aZ, aS])
    refine pl_done ?_
    refine hK13.out _ _ ?_
    (try clear hK13 K13)
    refine wp_cond_false rfl ?_
    refine wp_skip ?_
    refine hK12.out _ _ ?_
    (try clear hK12 K12)
    refine wk_seq (fun K15 hK15 => ?_)
    refine wk_reg ?_
    iterate 2 (refine pl_take (v := ?_) rfl ?_ ?_; rotate_left; (· (first | ((with_reducible apply yl_load); assumption; rfl; (repeat (first | with_reducible assumption | ((with_reducible apply Cl.own); exact rfl) | ((with_reducible apply Cl.blkL); exact rfl) | with_reducible apply Cl.cons)); rfl) | (go_simp; first | done | with_reducible rfl | rfl | omega | assumption | (simp; omega)))); (try simp only [Act.put, aP, aZ, aS]))
    refine pl_eff rfl (fun Kp hKp => ?_)
    go_simp
    ((refine (numL_spec _ (by assumption)).mono ?_); rintro e86 w86 ⟨rfl, hs86⟩)
    (try go_wp2_with fail)
    refine hKp.out _ _ ?_
    clear hKp Kp
    (try simp only [Act.put, aP, aZ, aS])
    iterate 2 (refine pl_take (v := .bool true) rfl ?_ ?_; (· (go_simp; first | done | with_reducible rfl | rfl | omega | assumption | (simp; omega))); (try simp only [Act.put, aP, aZ, aS]))
    refine pl_take (v := ?_) (by kernel_rfl) ?_ ?_
    rotate_left
    · (go_simp; first | done | with_reducible rfl | rfl | omega | assumption | (simp; omega))
    (try simp only [Act.put, aP, aZ, aS])
    refine pl_eff (by kernel_rfl) (fun Kp hKp => ?_)
    go_simp
    (refine (hN _ _ _ ((by assumption : Sat w0 _ _).pick (.cons (by (repeat (first | with_reducible exact Out.here _ | apply Out.there))) (.tail _)))).mono ?_; rintro e90 w90 ⟨rfl, hs90⟩)
    (try go_wp2_with fail)
    refine hKp.out _ _ ?_
    clear hKp Kp
    (try simp only [Act.put, aP, aZ, aS])
    refine pl_take (v := .bool true) (by kernel_rfl) ?_ ?_
    · (go_simp; first | done | with_reducible rfl | rfl | omega | assumption | (simp; omega))
    (try simp only [Act.put, aP, aZ, aS])
    iterate 2 (refine pl_take (v := .bool true) rfl ?_ ?_; (· (go_simp; first | done | with_reducible rfl | rfl | omega | assumption | (simp; omega))); (try simp only [Act.put, aP, aZ, aS]))
    refine pl_take (v := ?_) (by kernel_rfl) ?_ ?_
    rotate_left
    · (go_simp; first | done | with_reducible rfl | rfl | omega | assumption | (simp; omega))
    (try simp only [Act.put, aP, aZ, aS])
    refine pl_eff (by kernel_rfl) (fun Kp hKp => ?_)
    go_simp
    (refine (hSe _ _ _ ((by assumption : Sat w0 _ _).pick (.cons (by (repeat (first | with_reducible exact Out.here _ | apply Out.there))) (.tail _)))).mono ?_; rintro e95 w95 ⟨A95, c95, rfl, hs95⟩)
    (try go_wp2_with fail)
    refine hKp.out _ _ ?_
    clear hKp Kp
    (try simp only [Act.put, aP, aZ, aS])
    refine pl_eff (by kernel_rfl) (fun Kp hKp => ?_)
    ((with_reducible apply st_buildSlice); assumption; rfl; (go_simp; rfl); (simp [Value.cells]); omega; intro b96 w96 hs96)
    refine hKp.out _ _ ?_
    clear hKp Kp
    (try simp only [Act.put, aP, aZ, aS])
    refine pl_eff (by kernel_rfl) (fun Kp hKp => ?_)
    go_simp
    (refine (ints_ten (by assumption) (by (repeat (first | with_reducible assumption | with_reducible exact Rd.own | with_reducible exact Rd.nil | with_reducible apply Rd.cons))) (by (repeat (first | with_reducible assumption | with_reducible exact Rd.own | with_reducible exact Rd.nil | with_reducible apply Rd.cons)))).mono ?_; rintro e97 w97 ⟨rfl, hs97⟩)
    (try go_wp2_with fail)
    refine hKp.out _ _ ?_
    clear hKp Kp
    (try simp only [Act.put, aP, aZ, aS])
    iterate 2 (refine pl_take (v := .bool true) rfl ?_ ?_; (· (go_simp; first | done | with_reducible rfl | rfl | omega | assumption | (simp; omega))); (try simp only [Act.put, aP, aZ, aS]))
    refine pl_done ?_
    refine hK15.out _ _ ?_
    (try clear hK15 K15)
    refine wp_ret ?_
    go_ret
    exact ⟨rfl, (by assumption : Sat w0 _ _).pick (by (repeat (first | exact Pick.nil _ | exact Pick.tail _ | exact Out.here _ | apply Out.there | apply Pick.cons | apply Pick.drop)))⟩
end Go.Proofs.Ytdlimjcidblneaa
