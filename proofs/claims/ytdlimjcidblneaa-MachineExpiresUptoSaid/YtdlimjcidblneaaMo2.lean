/-
  However often puts are tried: MachineOnce, the walk.
-/
import Derived.Test.YtdlimjcidblneaaMo1
namespace Go.Proofs.Ytdlimjcidblneaa
open Go Go.RowKit Sl Go.Shelf
set_option maxHeartbeats 20000000
set_option maxRecDepth 8000


structure TryD where
  s : Int
  q : Int
  c : UInt8

def TryV : IsV TryD := fun _ cs x => ∃ v, cs = [.int .i64 x.s, .int .i64 x.q, .int .u8 v] ∧ b8 x.c = .int .u8 v

def o1M : Mc := ⟨1048576, 1, 0, [], [(1, ⟨0, 0, 1⟩)]⟩
def o2M : Mc := ⟨1048576, 2, 0, [], [(1, ⟨0, 0, 1⟩), (2, ⟨0, 0, 2⟩)]⟩
def o3M : Mc := ⟨1048576, 3, 0, [], [(1, ⟨0, 0, 1⟩), (2, ⟨0, 0, 2⟩), (3, ⟨0, 0, 3⟩)]⟩
theorem o1_eq : (Mc.new 1048576).apply 1 cOpen = (⟨0, 1, 0, 0⟩, o1M) := by unfold Mc.apply; rw [cmd_open]; rfl
theorem o2_eq : o1M.apply 2 cOpen = (⟨0, 2, 0, 0⟩, o2M) := by unfold Mc.apply; rw [cmd_open]; rfl
theorem o3_eq : o2M.apply 3 cOpen = (⟨0, 3, 0, 0⟩, o3M) := by unfold Mc.apply; rw [cmd_open]; rfl

def S0 (s : Int) : Se := ⟨0, 0, if s = 1 then 1 else if s = 2 then 2 else 3⟩
theorem once_start : Onc 0 o3M [] S0 :=
  ⟨rfl, rfl, rfl, by simp [o3M, S0], fun s => by unfold S0; simp only; split <;> (try split) <;> omega, fun s => by simp [S0], fun s q v h => by simp [mget] at h, fun s h => by simp [S0] at h, rfl, by simp [o3M]⟩

def laL (S : Int → Se) : List Value := [.int .i64 0, .int .i64 (S 1).q, .int .i64 (S 2).q, .int .i64 (S 3).q]
theorem laL_at (S : Int → Se) {j : Nat} (h : 1 ≤ j ∧ j ≤ 3) : (laL S)[j]? = some (.int .i64 (S j).q) := by
  have : j = 1 ∨ j = 2 ∨ j = 3 := by omega
  rcases this with rfl | rfl | rfl <;> rfl
theorem laL_set (S : Int → Se) {j : Nat} (h : 1 ≤ j ∧ j ≤ 3) (x : Se) : (laL S).set j (.int .i64 x.q) = laL (upS S j x) := by
  have : j = 1 ∨ j = 2 ∨ j = 3 := by omega
  rcases this with rfl | rfl | rfl <;> simp [laL, upS]
theorem laL_same (S : Int → Se) {j : Nat} (x : Se) (hx : x.q = (S j).q) : laL (upS S j x) = laL S := by
  unfold laL upS
  simp only [List.cons.injEq, Value.int.injEq, true_and, and_true]
  refine ⟨?_, ?_, ?_⟩
  · split
    · rename_i e; rw [hx, ← e]
    · rfl
  · split
    · rename_i e; rw [hx, ← e]
    · rfl
  · split
    · rename_i e; rw [hx, ← e]
    · rfl

theorem tmodK_bound (x N : Int) (hN : 0 < N) : -N < x.tmod N ∧ x.tmod N < N := by
  rcases Int.le_total 0 x with h | h
  · rw [Int.tmod_eq_emod_of_nonneg h]
    have := Int.emod_nonneg x (by omega : N ≠ 0)
    have := Int.emod_lt_of_pos x hN
    omega
  · rw [show x = -(-x) from by omega, Int.neg_tmod, Int.tmod_eq_emod_of_nonneg (by omega)]
    have := Int.emod_nonneg (-x) (by omega : N ≠ 0)
    have := Int.emod_lt_of_pos (-x) hN
    omega
theorem tmodK_pos {x N : Int} (h : 0 ≤ x) (hN : 0 < N) : 0 ≤ x.tmod N ∧ x.tmod N < N := by
  rw [Int.tmod_eq_emod_of_nonneg h]; exact ⟨Int.emod_nonneg x (by omega : N ≠ 0), Int.emod_lt_of_pos x hN⟩


theorem machineOnce_walk {w0 w : World} {L : List HP} {A : Option Addr} {c : Nat} (xs : List TryD) (hl : xs.length ≤ 1048576) (hs : Sat w0 w L) (hE : SlV TryV 3 (Rd w0 L) [.slice A xs.length c] xs) :
    Calls Try.prog 3 #[.slice A xs.length c] w (RetB w0 L true) := by
  obtain ⟨A', ca', vs, he1, hRv, hvl, hel⟩ := hE
  simp only [List.cons.injEq, Value.slice.injEq, and_true, true_and] at he1
  obtain ⟨rfl, rfl⟩ := he1
  have hO : cOpen.length ≤ 8 := num_len 1 (by omega)
  have hok0 : (Mc.new 1048576).Ok := Mc.new_ok (by omega)
  have hok1 : o1M.Ok := by have := (apply_ok (ix := 1) (b := cOpen) hok0).1; rwa [o1_eq] at this
  have hok2 : o2M.Ok := by have := (apply_ok (ix := 2) (b := cOpen) hok1).1; rwa [o2_eq] at this
  have hA1 := fun (w : World) (L' : List HP) (p : Nat) (A : Option Addr) (c : Nat) (hs : Sat w0 w (MR p (Mc.new 1048576) :: L')) (h : Rd w0 L' A cOpen.length 1 (B8 cOpen)) => apply_spec (c := c) 1 cOpen hok0 (by simp [Mc.new]) (by omega) hs h
  have hA2 := fun (w : World) (L' : List HP) (p : Nat) (A : Option Addr) (c : Nat) (hs : Sat w0 w (MR p o1M :: L')) (h : Rd w0 L' A cOpen.length 1 (B8 cOpen)) => apply_spec (c := c) 2 cOpen hok1 (by simp [o1M]) (by omega) hs h
  have hA3 := fun (w : World) (L' : List HP) (p : Nat) (A : Option Addr) (c : Nat) (hs : Sat w0 w (MR p o2M :: L')) (h : Rd w0 L' A cOpen.length 1 (B8 cOpen)) => apply_spec (c := c) 3 cOpen hok2 (by simp [o2M]) (by omega) hs h
  rw [o1_eq] at hA1
  rw [o2_eq] at hA2
  rw [o3_eq] at hA3
  unfold RetTold at hA1 hA2 hA3
  simp only at hA1 hA2 hA3
  have hOp := fun (w : World) (L' : List HP) (hs : Sat w0 w L') => openM_spec hs
  obtain ⟨co, hco⟩ : ∃ z, cOpen = z := ⟨_, rfl⟩
  rw [hco] at hA1 hA2 hA3 hOp
  clear hco hO
  have hone := once_start
  go_enter Try.func3, Try.ntmps3
  refine wk_seq (fun K0 hK0 => ?_)
  refine wk_reg ?_
  refine pl_take (v := .bool false) rfl ?_ ?_
  · (go_simp; first | done | with_reducible rfl | rfl | omega | assumption | (simp; omega))
  (try simp only [Act.put, aP, aZ, aS])
  refine pl_done ?_
  refine hK0.out _ _ ?_
  (try clear hK0 K0)
  refine wk_seq (fun K1 hK1 => ?_)
  refine wk_reg ?_
  refine pl_eff rfl (fun Kp hKp => ?_)
  go_simp
  (refine (newM_spec 1048576 (by omega) (by assumption)).mono ?_; rintro e19 w19 ⟨p, rfl, hs19⟩)
  (try go_wp2_with fail)
  refine hKp.out _ _ ?_
  clear hKp Kp
  (try simp only [Act.put, aP, aZ, aS])
  iterate 5 (refine pl_take (v := ?_) rfl ?_ ?_; rotate_left; (· (go_simp; first | done | with_reducible rfl | rfl | omega | assumption | (simp; omega))); (try simp only [Act.put, aP, aZ, aS]))
  refine pl_done ?_
  refine hK1.out _ _ ?_
  (try clear hK1 K1)
  refine wk_seq (fun K2 hK2 => ?_)
  refine wk_seq (fun K3 hK3 => ?_)
  refine wk_reg ?_
  refine pl_take (v := ?_) rfl ?_ ?_
  rotate_left
  · (go_simp; first | done | with_reducible rfl | rfl | omega | assumption | (simp; omega))
  (try simp only [Act.put, aP, aZ, aS])
  refine pl_eff rfl (fun Kp hKp => ?_)
  go_simp
  ((refine (numL_spec _ (by assumption)).mono ?_); rintro e23 w23 ⟨rfl, hs23⟩)
  (try go_wp2_with fail)
  refine hKp.out _ _ ?_
  clear hKp Kp
  (try simp only [Act.put, aP, aZ, aS])
  iterate 2 (refine pl_take (v := .bool false) rfl ?_ ?_; (· (go_simp; first | done | with_reducible rfl | rfl | omega | assumption | (simp; omega))); (try simp only [Act.put, aP, aZ, aS]))
  refine pl_take (v := ?_) (by kernel_rfl) ?_ ?_
  rotate_left
  · (go_simp; first | done | with_reducible rfl | rfl | omega | assumption | (simp; omega))
  (try simp only [Act.put, aP, aZ, aS])
  refine pl_take (v := .bool false) (by kernel_rfl) ?_ ?_
  · (go_simp; first | done | with_reducible rfl | rfl | omega | assumption | (simp; omega))
  (try simp only [Act.put, aP, aZ, aS])
  iterate 2 (refine pl_take (v := .bool false) rfl ?_ ?_; (· (go_simp; first | done | with_reducible rfl | rfl | omega | assumption | (simp; omega))); (try simp only [Act.put, aP, aZ, aS]))
  refine pl_eff (by kernel_rfl) (fun Kp hKp => ?_)
  go_simp
  (refine (knows08_spec (by assumption)).mono ?_; rintro e30 w30 ⟨rfl, hs30⟩)
  (try go_wp2_with fail)
  refine hKp.out _ _ ?_
  clear hKp Kp
  (try simp only [Act.put, aP, aZ, aS])
  refine pl_take (v := .bool false) (by kernel_rfl) ?_ ?_
  · (go_simp; first | done | with_reducible rfl | rfl | omega | assumption | (simp; omega))
  (try simp only [Act.put, aP, aZ, aS])
  refine pl_take (v := .bool false) rfl ?_ ?_
  · (go_simp; first | done | with_reducible rfl | rfl | omega | assumption | (simp; omega))
  (try simp only [Act.put, aP, aZ, aS])
  refine pl_done ?_
  refine hK3.out _ _ ?_
  (try clear hK3 K3)
  refine wp_cond_false rfl ?_
  refine wp_skip ?_
  refine hK2.out _ _ ?_
  (try clear hK2 K2)
  refine wk_seq (fun K5 hK5 => ?_)
  refine wk_seq (fun K6 hK6 => ?_)
  refine wk_reg ?_
  refine pl_take (v := ?_) rfl ?_ ?_
  rotate_left
  · (go_simp; first | done | with_reducible rfl | rfl | omega | assumption | (simp; omega))
  (try simp only [Act.put, aP, aZ, aS])
  refine pl_done ?_
  refine hK6.out _ _ ?_
  (try clear hK6 K6)
  refine wp_block ?_
  have hwr1 : IntKind.i64.wrap 1 = 1 := by decide
  have hwr2 : IntKind.i64.wrap 2 = 2 := by decide
  have hwr3 : IntKind.i64.wrap 3 = 3 := by decide
  have hwr4 : IntKind.i64.wrap 4 = 4 := by decide
  have hwr5 : IntKind.i64.wrap 5 = 5 := by decide
  have hwr6 : IntKind.i64.wrap 6 = 6 := by decide
  have hwr7 : IntKind.i64.wrap 7 = 7 := by decide
  have hwr8 : IntKind.i64.wrap 8 = 8 := by decide
  refine wp_loop_rounds 4 ?_
  rw [rounds_succ]
  refine wk_seq (fun K7 hK7 => ?_)
  refine wk_seq (fun K8 hK8 => ?_)
  refine wk_reg ?_
  refine pl_take (v := ?_) rfl ?_ ?_
  rotate_left
  · (go_simp; first | done | with_reducible rfl | rfl | omega | assumption | (simp; omega))
  (try simp only [Act.put, aP, aZ, aS])
  refine pl_take (v := .bool true) rfl ?_ ?_
  · (go_simp; first | done | with_reducible rfl | rfl | omega | assumption | (simp; omega))
  (try simp only [Act.put, aP, aZ, aS])
  refine pl_done ?_
  refine hK8.out _ _ ?_
  (try clear hK8 K8)
  refine wp_cond_true rfl ?_
  refine wp_skip ?_
  refine hK7.out _ _ ?_
  (try clear hK7 K7)
  refine wk_seq (fun K9 hK9 => ?_)
  refine wp_block ?_
  refine wk_seq (fun K10 hK10 => ?_)
  refine wk_reg ?_
  iterate 2 (refine pl_take (v := ?_) rfl ?_ ?_; rotate_left; (· (go_simp; first | done | with_reducible rfl | rfl | omega | assumption | (simp; omega))); (try simp only [Act.put, aP, aZ, aS]))
  refine pl_eff rfl (fun Kp hKp => ?_)
  go_simp
  (refine (hOp _ _ (by assumption)).mono ?_; rintro e40 w40 ⟨B40, c40, rfl, hs40⟩)
  (try go_wp2_with fail)
  refine hKp.out _ _ ?_
  clear hKp Kp
  (try simp only [Act.put, aP, aZ, aS])
  refine pl_eff rfl (fun Kp hKp => ?_)
  go_simp
  (refine (hA1 _ _ _ _ _ ((by assumption : Sat w0 _ _).pick (.cons (by (repeat (first | with_reducible exact Out.here _ | apply Out.there))) (.tail _))) (by (repeat (first | with_reducible assumption | with_reducible exact Rd.own | with_reducible exact Rd.nil | with_reducible apply Rd.cons)))).mono ?_; rintro e41 w41 ⟨rfl, hs41⟩)
  (try go_wp2_with fail)
  refine hKp.out _ _ ?_
  clear hKp Kp
  (try simp only [Act.put, aP, aZ, aS])
  iterate 3 (refine pl_take (v := ?_) rfl ?_ ?_; rotate_left; (· (go_simp; first | done | with_reducible rfl | rfl | omega | assumption | (simp; omega))); (try simp only [Act.put, aP, aZ, aS]))
  refine pl_eff rfl (fun Kp hKp => ?_)
  ((with_reducible apply st_alloc); assumption; intro b6 w6 hs6; simp only [Value.cells] at hs6)
  refine hKp.out _ _ ?_
  clear hKp Kp
  (try simp only [Act.put, aP, aZ, aS])
  refine pl_eff rfl (fun Kp hKp => ?_)
  (first | ((with_reducible apply st_storeAll); assumption; rfl; (go_simp; rfl); (repeat (first | with_reducible exact Out.here _ | apply Out.there)); rfl; (focus (first | (simp [Value.oneCell']; done) | (simp [Value.cells, Value.oneCell']; done))); rfl; intro wr7_8 hsr7_8; simp only [Value.cells] at hsr7_8) | ((with_reducible apply st_store); assumption; rfl; (go_simp; rfl); (repeat (first | with_reducible exact Out.here _ | apply Out.there)); rfl; (first | (focus (simp [Value.oneCell']; done)) | (simp [Value.cells, Value.oneCell'])); (first | (focus (simp; done)) | (simp [Value.cells])); intro wr7_8 hsr7_8; simp only [upd, Value.cells] at hsr7_8))
  refine hKp.out _ _ ?_
  clear hKp Kp
  (try dsimp only [Act.put])
  refine pl_take (v := ?_) rfl ?_ ?_
  rotate_left
  · (go_simp; first | done | with_reducible rfl | rfl | omega | assumption | (simp; omega))
  (try simp only [Act.put, aP, aZ, aS])
  refine pl_done ?_
  refine hK10.out _ _ ?_
  (try clear hK10 K10)
  refine wk_seq (fun K11 hK11 => ?_)
  refine rg_start rfl (by assumption) (fun wr8 hsr8 => ?_)
  refine rg_take (i := 0) (v := ?_) rfl (by kernel_rfl) (by kernel_rfl) (by kernel_rfl) (fun _ _ _ h => h) rfl (by assumption) ?_ ?_
  rotate_left
  · intro w hSw; (go_simp; first | done | with_reducible rfl | rfl | omega | assumption | (simp; omega))
  (try simp only [Act.put, aP, aZ, aS])
  refine rg_take (i := 2) (v := ?_) rfl (by kernel_rfl) (by kernel_rfl) (by kernel_rfl) (fun _ _ _ h => h) rfl (by assumption) ?_ ?_
  rotate_left
  · intro w hSw; (go_simp; first | done | with_reducible rfl | rfl | omega | assumption | (simp; omega))
  (try simp only [Act.put, aP, aZ, aS])
  refine rg_take (i := 3) (v := ?_) rfl (by kernel_rfl) (by kernel_rfl) (by kernel_rfl) (fun _ _ _ h => h) rfl (by assumption) ?_ ?_
  rotate_left
  · intro w hSw; ((with_reducible apply yl_load); assumption; rfl; (repeat (first | with_reducible assumption | ((with_reducible apply Cl.own); exact rfl) | ((with_reducible apply Cl.blkL); exact rfl) | with_reducible apply Cl.cons)); rfl)
  (try simp only [Act.put, aP, aZ, aS])
  refine rg_one (i := 1) (by kernel_rfl) rfl rfl (fun Kp hKp => ?_)
  go_simp
  ((refine (numL_spec _ (by assumption)).mono ?_); rintro e45 w45 ⟨rfl, hs45⟩)
  (try go_wp2_with fail)
  refine rg_back (hK := hKp) ?_ (fun hsk45 => ?_)
  · (first | assumption | (apply Sat.drew; assumption) | (apply Sat.pick; assumption; (repeat (first | exact Pick.nil _ | with_reducible exact Pick.tail _ | with_reducible exact Out.here _ | apply Out.there | apply Pick.cons | apply Pick.drop))))
  clear hKp Kp
  have hsz45 := hs45
  (try simp only [Act.put, aP, aZ, aS])
  refine rg_one (i := 4) (by kernel_rfl) rfl rfl (fun Kp hKp => ?_)
  go_simp
  ((refine (numL_spec _ (by assumption)).mono ?_); rintro e48 w48 ⟨rfl, hs48⟩)
  (try go_wp2_with fail)
  refine rg_back (hK := hKp) ?_ (fun hsk48 => ?_)
  · (first | assumption | (apply Sat.drew; assumption) | (apply Sat.pick; assumption; (repeat (first | exact Pick.nil _ | with_reducible exact Pick.tail _ | with_reducible exact Out.here _ | apply Out.there | apply Pick.cons | apply Pick.drop))))
  clear hKp Kp
  have hsz48 := hs48
  (try simp only [Act.put, aP, aZ, aS])
  refine rg_take (i := 5) (v := ?_) rfl (by kernel_rfl) (by kernel_rfl) (by kernel_rfl) (fun _ _ _ h => h) rfl (by assumption) ?_ ?_
  rotate_left
  · intro w hSw; (go_simp; first | done | with_reducible rfl | rfl | omega | assumption | (simp; omega))
  (try simp only [Act.put, aP, aZ, aS])
  refine rg_take (i := 6) (v := .bool false) rfl (by kernel_rfl) (by kernel_rfl) (by kernel_rfl) (fun _ _ _ h => h) rfl (by assumption) ?_ ?_
  · intro w hSw; (go_simp; first | done | with_reducible rfl | rfl | omega | assumption | (simp; omega))
  (try simp only [Act.put, aP, aZ, aS])
  refine rg_take (i := 7) (v := .bool false) rfl (by kernel_rfl) (by kernel_rfl) (by kernel_rfl) (fun _ _ _ h => h) rfl (by assumption) ?_ ?_
  · intro w hSw; (go_simp; first | done | with_reducible rfl | rfl | omega | assumption | (simp; omega))
  (try simp only [Act.put, aP, aZ, aS])
  refine rg_take (i := 8) (v := ?_) rfl (by kernel_rfl) (by kernel_rfl) (by kernel_rfl) (fun _ _ _ h => h) (by kernel_rfl) (by assumption) ?_ ?_
  rotate_left
  · intro w hSw; (go_simp; first | done | with_reducible rfl | rfl | omega | assumption | (simp; omega))
  (try simp only [Act.put, aP, aZ, aS])
  refine rg_take (i := 9) (v := ?_) rfl (by kernel_rfl) (by kernel_rfl) (by kernel_rfl) (fun _ _ _ h => h) (by kernel_rfl) (by assumption) ?_ ?_
  rotate_left
  · intro w hSw; ((with_reducible apply yl_load); assumption; rfl; (repeat (first | with_reducible assumption | ((with_reducible apply Cl.own); exact rfl) | ((with_reducible apply Cl.blkL); exact rfl) | with_reducible apply Cl.cons)); rfl)
  (try simp only [Act.put, aP, aZ, aS])
  refine rg_take (i := 10) (v := ?_) rfl (by kernel_rfl) (by kernel_rfl) (by kernel_rfl) (fun _ _ _ h => h) (by kernel_rfl) (by assumption) ?_ ?_
  rotate_left
  · intro w hSw; (go_simp; first | done | with_reducible rfl | rfl | omega | assumption | (simp; omega))
  (try simp only [Act.put, aP, aZ, aS])
  refine rg_take (i := 11) (v := .bool false) rfl (by kernel_rfl) (by kernel_rfl) (by kernel_rfl) (fun _ _ _ h => h) (by kernel_rfl) (by assumption) ?_ ?_
  · intro w hSw; (go_simp; first | done | with_reducible rfl | rfl | omega | assumption | (simp; omega))
  (try simp only [Act.put, aP, aZ, aS])
  refine rg_take (i := 12) (v := .bool false) rfl (by kernel_rfl) (by kernel_rfl) (by kernel_rfl) (fun _ _ _ h => h) rfl (by assumption) ?_ ?_
  · intro w hSw; (go_simp; first | done | with_reducible rfl | rfl | omega | assumption | (simp; omega))
  (try simp only [Act.put, aP, aZ, aS])
  refine rg_done (by kernel_rfl) ?_
  refine hK11.out _ _ ?_
  (try clear hK11 K11)
  refine wp_cond_false rfl ?_
  refine wp_skip ?_
  refine hK9.out _ _ ?_
  (try clear hK9 K9)
  refine wk_reg ?_
  iterate 3 (refine pl_take (v := ?_) rfl ?_ ?_; rotate_left; (· (go_simp; first | done | with_reducible rfl | rfl | omega | assumption | (simp; omega))); (try simp only [Act.put, aP, aZ, aS]))
  refine pl_done ?_
  show Code.rounds _ _ _ _ _ _
  rw [rounds_succ]
  refine wk_seq (fun K7 hK7 => ?_)
  refine wk_seq (fun K8 hK8 => ?_)
  refine wk_reg ?_
  refine pl_take (v := ?_) rfl ?_ ?_
  rotate_left
  · (go_simp; first | done | with_reducible rfl | rfl | omega | assumption | (simp; omega))
  (try simp only [Act.put, aP, aZ, aS])
  refine pl_take (v := .bool true) rfl ?_ ?_
  · (go_simp; first | done | with_reducible rfl | rfl | omega | assumption | (simp; omega))
  (try simp only [Act.put, aP, aZ, aS])
  refine pl_done ?_
  refine hK8.out _ _ ?_
  (try clear hK8 K8)
  refine wp_cond_true rfl ?_
  refine wp_skip ?_
  refine hK7.out _ _ ?_
  (try clear hK7 K7)
  refine wk_seq (fun K9 hK9 => ?_)
  refine wp_block ?_
  refine wk_seq (fun K10 hK10 => ?_)
  refine wk_reg ?_
  iterate 2 (refine pl_take (v := ?_) rfl ?_ ?_; rotate_left; (· (go_simp; first | done | with_reducible rfl | rfl | omega | assumption | (simp; omega))); (try simp only [Act.put, aP, aZ, aS]))
  refine pl_eff rfl (fun Kp hKp => ?_)
  go_simp
  (refine (hOp _ _ (by assumption)).mono ?_; rintro e40 w40 ⟨B40, c40, rfl, hs40⟩)
  (try go_wp2_with fail)
  refine hKp.out _ _ ?_
  clear hKp Kp
  (try simp only [Act.put, aP, aZ, aS])
  refine pl_eff rfl (fun Kp hKp => ?_)
  go_simp
  (refine (hA2 _ _ _ _ _ ((by assumption : Sat w0 _ _).pick (.cons (by (repeat (first | with_reducible exact Out.here _ | apply Out.there))) (.tail _))) (by (repeat (first | with_reducible assumption | with_reducible exact Rd.own | with_reducible exact Rd.nil | with_reducible apply Rd.cons)))).mono ?_; rintro e41 w41 ⟨rfl, hs41⟩)
  (try go_wp2_with fail)
  refine hKp.out _ _ ?_
  clear hKp Kp
  (try simp only [Act.put, aP, aZ, aS])
  iterate 3 (refine pl_take (v := ?_) rfl ?_ ?_; rotate_left; (· (go_simp; first | done | with_reducible rfl | rfl | omega | assumption | (simp; omega))); (try simp only [Act.put, aP, aZ, aS]))
  refine pl_eff rfl (fun Kp hKp => ?_)
  ((with_reducible apply st_alloc); assumption; intro b6 w6 hs6; simp only [Value.cells] at hs6)
  refine hKp.out _ _ ?_
  clear hKp Kp
  (try simp only [Act.put, aP, aZ, aS])
  refine pl_eff rfl (fun Kp hKp => ?_)
  (first | ((with_reducible apply st_storeAll); assumption; rfl; (go_simp; rfl); (repeat (first | with_reducible exact Out.here _ | apply Out.there)); rfl; (focus (first | (simp [Value.oneCell']; done) | (simp [Value.cells, Value.oneCell']; done))); rfl; intro wr7_8 hsr7_8; simp only [Value.cells] at hsr7_8) | ((with_reducible apply st_store); assumption; rfl; (go_simp; rfl); (repeat (first | with_reducible exact Out.here _ | apply Out.there)); rfl; (first | (focus (simp [Value.oneCell']; done)) | (simp [Value.cells, Value.oneCell'])); (first | (focus (simp; done)) | (simp [Value.cells])); intro wr7_8 hsr7_8; simp only [upd, Value.cells] at hsr7_8))
  refine hKp.out _ _ ?_
  clear hKp Kp
  (try dsimp only [Act.put])
  refine pl_take (v := ?_) rfl ?_ ?_
  rotate_left
  · (go_simp; first | done | with_reducible rfl | rfl | omega | assumption | (simp; omega))
  (try simp only [Act.put, aP, aZ, aS])
  refine pl_done ?_
  refine hK10.out _ _ ?_
  (try clear hK10 K10)
  refine wk_seq (fun K11 hK11 => ?_)
  refine rg_start rfl (by assumption) (fun wr8 hsr8 => ?_)
  refine rg_take (i := 0) (v := ?_) rfl (by kernel_rfl) (by kernel_rfl) (by kernel_rfl) (fun _ _ _ h => h) rfl (by assumption) ?_ ?_
  rotate_left
  · intro w hSw; (go_simp; first | done | with_reducible rfl | rfl | omega | assumption | (simp; omega))
  (try simp only [Act.put, aP, aZ, aS])
  refine rg_take (i := 2) (v := ?_) rfl (by kernel_rfl) (by kernel_rfl) (by kernel_rfl) (fun _ _ _ h => h) rfl (by assumption) ?_ ?_
  rotate_left
  · intro w hSw; (go_simp; first | done | with_reducible rfl | rfl | omega | assumption | (simp; omega))
  (try simp only [Act.put, aP, aZ, aS])
  refine rg_take (i := 3) (v := ?_) rfl (by kernel_rfl) (by kernel_rfl) (by kernel_rfl) (fun _ _ _ h => h) rfl (by assumption) ?_ ?_
  rotate_left
  · intro w hSw; ((with_reducible apply yl_load); assumption; rfl; (repeat (first | with_reducible assumption | ((with_reducible apply Cl.own); exact rfl) | ((with_reducible apply Cl.blkL); exact rfl) | with_reducible apply Cl.cons)); rfl)
  (try simp only [Act.put, aP, aZ, aS])
  refine rg_one (i := 1) (by kernel_rfl) rfl rfl (fun Kp hKp => ?_)
  go_simp
  ((refine (numL_spec _ (by assumption)).mono ?_); rintro e45 w45 ⟨rfl, hs45⟩)
  (try go_wp2_with fail)
  refine rg_back (hK := hKp) ?_ (fun hsk45 => ?_)
  · (first | assumption | (apply Sat.drew; assumption) | (apply Sat.pick; assumption; (repeat (first | exact Pick.nil _ | with_reducible exact Pick.tail _ | with_reducible exact Out.here _ | apply Out.there | apply Pick.cons | apply Pick.drop))))
  clear hKp Kp
  have hsz45 := hs45
  (try simp only [Act.put, aP, aZ, aS])
  refine rg_one (i := 4) (by kernel_rfl) rfl rfl (fun Kp hKp => ?_)
  go_simp
  ((refine (numL_spec _ (by assumption)).mono ?_); rintro e48 w48 ⟨rfl, hs48⟩)
  (try go_wp2_with fail)
  refine rg_back (hK := hKp) ?_ (fun hsk48 => ?_)
  · (first | assumption | (apply Sat.drew; assumption) | (apply Sat.pick; assumption; (repeat (first | exact Pick.nil _ | with_reducible exact Pick.tail _ | with_reducible exact Out.here _ | apply Out.there | apply Pick.cons | apply Pick.drop))))
  clear hKp Kp
  have hsz48 := hs48
  (try simp only [Act.put, aP, aZ, aS])
  refine rg_take (i := 5) (v := ?_) rfl (by kernel_rfl) (by kernel_rfl) (by kernel_rfl) (fun _ _ _ h => h) rfl (by assumption) ?_ ?_
  rotate_left
  · intro w hSw; (go_simp; first | done | with_reducible rfl | rfl | omega | assumption | (simp; omega))
  (try simp only [Act.put, aP, aZ, aS])
  refine rg_take (i := 6) (v := .bool false) rfl (by kernel_rfl) (by kernel_rfl) (by kernel_rfl) (fun _ _ _ h => h) rfl (by assumption) ?_ ?_
  · intro w hSw; (go_simp; first | done | with_reducible rfl | rfl | omega | assumption | (simp; omega))
  (try simp only [Act.put, aP, aZ, aS])
  refine rg_take (i := 7) (v := .bool false) rfl (by kernel_rfl) (by kernel_rfl) (by kernel_rfl) (fun _ _ _ h => h) rfl (by assumption) ?_ ?_
  · intro w hSw; (go_simp; first | done | with_reducible rfl | rfl | omega | assumption | (simp; omega))
  (try simp only [Act.put, aP, aZ, aS])
  refine rg_take (i := 8) (v := ?_) rfl (by kernel_rfl) (by kernel_rfl) (by kernel_rfl) (fun _ _ _ h => h) (by kernel_rfl) (by assumption) ?_ ?_
  rotate_left
  · intro w hSw; (go_simp; first | done | with_reducible rfl | rfl | omega | assumption | (simp; omega))
  (try simp only [Act.put, aP, aZ, aS])
  refine rg_take (i := 9) (v := ?_) rfl (by kernel_rfl) (by kernel_rfl) (by kernel_rfl) (fun _ _ _ h => h) (by kernel_rfl) (by assumption) ?_ ?_
  rotate_left
  · intro w hSw; ((with_reducible apply yl_load); assumption; rfl; (repeat (first | with_reducible assumption | ((with_reducible apply Cl.own); exact rfl) | ((with_reducible apply Cl.blkL); exact rfl) | with_reducible apply Cl.cons)); rfl)
  (try simp only [Act.put, aP, aZ, aS])
  refine rg_take (i := 10) (v := ?_) rfl (by kernel_rfl) (by kernel_rfl) (by kernel_rfl) (fun _ _ _ h => h) (by kernel_rfl) (by assumption) ?_ ?_
  rotate_left
  · intro w hSw; (go_simp; first | done | with_reducible rfl | rfl | omega | assumption | (simp; omega))
  (try simp only [Act.put, aP, aZ, aS])
  refine rg_take (i := 11) (v := .bool false) rfl (by kernel_rfl) (by kernel_rfl) (by kernel_rfl) (fun _ _ _ h => h) (by kernel_rfl) (by assumption) ?_ ?_
  · intro w hSw; (go_simp; first | done | with_reducible rfl | rfl | omega | assumption | (simp; omega))
  (try simp only [Act.put, aP, aZ, aS])
  refine rg_take (i := 12) (v := .bool false) rfl (by kernel_rfl) (by kernel_rfl) (by kernel_rfl) (fun _ _ _ h => h) rfl (by assumption) ?_ ?_
  · intro w hSw; (go_simp; first | done | with_reducible rfl | rfl | omega | assumption | (simp; omega))
  (try simp only [Act.put, aP, aZ, aS])
  refine rg_done (by kernel_rfl) ?_
  refine hK11.out _ _ ?_
  (try clear hK11 K11)
  refine wp_cond_false rfl ?_
  refine wp_skip ?_
  refine hK9.out _ _ ?_
  (try clear hK9 K9)
  refine wk_reg ?_
  iterate 3 (refine pl_take (v := ?_) rfl ?_ ?_; rotate_left; (· (go_simp; first | done | with_reducible rfl | rfl | omega | assumption | (simp; omega))); (try simp only [Act.put, aP, aZ, aS]))
  refine pl_done ?_
  show Code.rounds _ _ _ _ _ _
  rw [rounds_succ]
  refine wk_seq (fun K7 hK7 => ?_)
  refine wk_seq (fun K8 hK8 => ?_)
  refine wk_reg ?_
  refine pl_take (v := ?_) rfl ?_ ?_
  rotate_left
  · (go_simp; first | done | with_reducible rfl | rfl | omega | assumption | (simp; omega))
  (try simp only [Act.put, aP, aZ, aS])
  refine pl_take (v := .bool true) rfl ?_ ?_
  · (go_simp; first | done | with_reducible rfl | rfl | omega | assumption | (simp; omega))
  (try simp only [Act.put, aP, aZ, aS])
  refine pl_done ?_
  refine hK8.out _ _ ?_
  (try clear hK8 K8)
  refine wp_cond_true rfl ?_
  refine wp_skip ?_
  refine hK7.out _ _ ?_
  (try clear hK7 K7)
  refine wk_seq (fun K9 hK9 => ?_)
  refine wp_block ?_
  refine wk_seq (fun K10 hK10 => ?_)
  refine wk_reg ?_
  iterate 2 (refine pl_take (v := ?_) rfl ?_ ?_; rotate_left; (· (go_simp; first | done | with_reducible rfl | rfl | omega | assumption | (simp; omega))); (try simp only [Act.put, aP, aZ, aS]))
  refine pl_eff rfl (fun Kp hKp => ?_)
  go_simp
  (refine (hOp _ _ (by assumption)).mono ?_; rintro e40 w40 ⟨B40, c40, rfl, hs40⟩)
  (try go_wp2_with fail)
  refine hKp.out _ _ ?_
  clear hKp Kp
  (try simp only [Act.put, aP, aZ, aS])
  refine pl_eff rfl (fun Kp hKp => ?_)
  go_simp
  (refine (hA3 _ _ _ _ _ ((by assumption : Sat w0 _ _).pick (.cons (by (repeat (first | with_reducible exact Out.here _ | apply Out.there))) (.tail _))) (by (repeat (first | with_reducible assumption | with_reducible exact Rd.own | with_reducible exact Rd.nil | with_reducible apply Rd.cons)))).mono ?_; rintro e41 w41 ⟨rfl, hs41⟩)
  (try go_wp2_with fail)
  refine hKp.out _ _ ?_
  clear hKp Kp
  (try simp only [Act.put, aP, aZ, aS])
  iterate 3 (refine pl_take (v := ?_) rfl ?_ ?_; rotate_left; (· (go_simp; first | done | with_reducible rfl | rfl | omega | assumption | (simp; omega))); (try simp only [Act.put, aP, aZ, aS]))
  refine pl_eff rfl (fun Kp hKp => ?_)
  ((with_reducible apply st_alloc); assumption; intro b6 w6 hs6; simp only [Value.cells] at hs6)
  refine hKp.out _ _ ?_
  clear hKp Kp
  (try simp only [Act.put, aP, aZ, aS])
  refine pl_eff rfl (fun Kp hKp => ?_)
  (first | ((with_reducible apply st_storeAll); assumption; rfl; (go_simp; rfl); (repeat (first | with_reducible exact Out.here _ | apply Out.there)); rfl; (focus (first | (simp [Value.oneCell']; done) | (simp [Value.cells, Value.oneCell']; done))); rfl; intro wr7_8 hsr7_8; simp only [Value.cells] at hsr7_8) | ((with_reducible apply st_store); assumption; rfl; (go_simp; rfl); (repeat (first | with_reducible exact Out.here _ | apply Out.there)); rfl; (first | (focus (simp [Value.oneCell']; done)) | (simp [Value.cells, Value.oneCell'])); (first | (focus (simp; done)) | (simp [Value.cells])); intro wr7_8 hsr7_8; simp only [upd, Value.cells] at hsr7_8))
  refine hKp.out _ _ ?_
  clear hKp Kp
  (try dsimp only [Act.put])
  refine pl_take (v := ?_) rfl ?_ ?_
  rotate_left
  · (go_simp; first | done | with_reducible rfl | rfl | omega | assumption | (simp; omega))
  (try simp only [Act.put, aP, aZ, aS])
  refine pl_done ?_
  refine hK10.out _ _ ?_
  (try clear hK10 K10)
  refine wk_seq (fun K11 hK11 => ?_)
  refine rg_start rfl (by assumption) (fun wr8 hsr8 => ?_)
  refine rg_take (i := 0) (v := ?_) rfl (by kernel_rfl) (by kernel_rfl) (by kernel_rfl) (fun _ _ _ h => h) rfl (by assumption) ?_ ?_
  rotate_left
  · intro w hSw; (go_simp; first | done | with_reducible rfl | rfl | omega | assumption | (simp; omega))
  (try simp only [Act.put, aP, aZ, aS])
  refine rg_take (i := 2) (v := ?_) rfl (by kernel_rfl) (by kernel_rfl) (by kernel_rfl) (fun _ _ _ h => h) rfl (by assumption) ?_ ?_
  rotate_left
  · intro w hSw; (go_simp; first | done | with_reducible rfl | rfl | omega | assumption | (simp; omega))
  (try simp only [Act.put, aP, aZ, aS])
  refine rg_take (i := 3) (v := ?_) rfl (by kernel_rfl) (by kernel_rfl) (by kernel_rfl) (fun _ _ _ h => h) rfl (by assumption) ?_ ?_
  rotate_left
  · intro w hSw; ((with_reducible apply yl_load); assumption; rfl; (repeat (first | with_reducible assumption | ((with_reducible apply Cl.own); exact rfl) | ((with_reducible apply Cl.blkL); exact rfl) | with_reducible apply Cl.cons)); rfl)
  (try simp only [Act.put, aP, aZ, aS])
  refine rg_one (i := 1) (by kernel_rfl) rfl rfl (fun Kp hKp => ?_)
  go_simp
  ((refine (numL_spec _ (by assumption)).mono ?_); rintro e45 w45 ⟨rfl, hs45⟩)
  (try go_wp2_with fail)
  refine rg_back (hK := hKp) ?_ (fun hsk45 => ?_)
  · (first | assumption | (apply Sat.drew; assumption) | (apply Sat.pick; assumption; (repeat (first | exact Pick.nil _ | with_reducible exact Pick.tail _ | with_reducible exact Out.here _ | apply Out.there | apply Pick.cons | apply Pick.drop))))
  clear hKp Kp
  have hsz45 := hs45
  (try simp only [Act.put, aP, aZ, aS])
  refine rg_one (i := 4) (by kernel_rfl) rfl rfl (fun Kp hKp => ?_)
  go_simp
  ((refine (numL_spec _ (by assumption)).mono ?_); rintro e48 w48 ⟨rfl, hs48⟩)
  (try go_wp2_with fail)
  refine rg_back (hK := hKp) ?_ (fun hsk48 => ?_)
  · (first | assumption | (apply Sat.drew; assumption) | (apply Sat.pick; assumption; (repeat (first | exact Pick.nil _ | with_reducible exact Pick.tail _ | with_reducible exact Out.here _ | apply Out.there | apply Pick.cons | apply Pick.drop))))
  clear hKp Kp
  have hsz48 := hs48
  (try simp only [Act.put, aP, aZ, aS])
  refine rg_take (i := 5) (v := ?_) rfl (by kernel_rfl) (by kernel_rfl) (by kernel_rfl) (fun _ _ _ h => h) rfl (by assumption) ?_ ?_
  rotate_left
  · intro w hSw; (go_simp; first | done | with_reducible rfl | rfl | omega | assumption | (simp; omega))
  (try simp only [Act.put, aP, aZ, aS])
  refine rg_take (i := 6) (v := .bool false) rfl (by kernel_rfl) (by kernel_rfl) (by kernel_rfl) (fun _ _ _ h => h) rfl (by assumption) ?_ ?_
  · intro w hSw; (go_simp; first | done | with_reducible rfl | rfl | omega | assumption | (simp; omega))
  (try simp only [Act.put, aP, aZ, aS])
  refine rg_take (i := 7) (v := .bool false) rfl (by kernel_rfl) (by kernel_rfl) (by kernel_rfl) (fun _ _ _ h => h) rfl (by assumption) ?_ ?_
  · intro w hSw; (go_simp; first | done | with_reducible rfl | rfl | omega | assumption | (simp; omega))
  (try simp only [Act.put, aP, aZ, aS])
  refine rg_take (i := 8) (v := ?_) rfl (by kernel_rfl) (by kernel_rfl) (by kernel_rfl) (fun _ _ _ h => h) (by kernel_rfl) (by assumption) ?_ ?_
  rotate_left
  · intro w hSw; (go_simp; first | done | with_reducible rfl | rfl | omega | assumption | (simp; omega))
  (try simp only [Act.put, aP, aZ, aS])
  refine rg_take (i := 9) (v := ?_) rfl (by kernel_rfl) (by kernel_rfl) (by kernel_rfl) (fun _ _ _ h => h) (by kernel_rfl) (by assumption) ?_ ?_
  rotate_left
  · intro w hSw; ((with_reducible apply yl_load); assumption; rfl; (repeat (first | with_reducible assumption | ((with_reducible apply Cl.own); exact rfl) | ((with_reducible apply Cl.blkL); exact rfl) | with_reducible apply Cl.cons)); rfl)
  (try simp only [Act.put, aP, aZ, aS])
  refine rg_take (i := 10) (v := ?_) rfl (by kernel_rfl) (by kernel_rfl) (by kernel_rfl) (fun _ _ _ h => h) (by kernel_rfl) (by assumption) ?_ ?_
  rotate_left
  · intro w hSw; (go_simp; first | done | with_reducible rfl | rfl | omega | assumption | (simp; omega))
  (try simp only [Act.put, aP, aZ, aS])
  refine rg_take (i := 11) (v := .bool false) rfl (by kernel_rfl) (by kernel_rfl) (by kernel_rfl) (fun _ _ _ h => h) (by kernel_rfl) (by assumption) ?_ ?_
  · intro w hSw; (go_simp; first | done | with_reducible rfl | rfl | omega | assumption | (simp; omega))
  (try simp only [Act.put, aP, aZ, aS])
  refine rg_take (i := 12) (v := .bool false) rfl (by kernel_rfl) (by kernel_rfl) (by kernel_rfl) (fun _ _ _ h => h) rfl (by assumption) ?_ ?_
  · intro w hSw; (go_simp; first | done | with_reducible rfl | rfl | omega | assumption | (simp; omega))
  (try simp only [Act.put, aP, aZ, aS])
  refine rg_done (by kernel_rfl) ?_
  refine hK11.out _ _ ?_
  (try clear hK11 K11)
  refine wp_cond_false rfl ?_
  refine wp_skip ?_
  refine hK9.out _ _ ?_
  (try clear hK9 K9)
  refine wk_reg ?_
  iterate 3 (refine pl_take (v := ?_) rfl ?_ ?_; rotate_left; (· (go_simp; first | done | with_reducible rfl | rfl | omega | assumption | (simp; omega))); (try simp only [Act.put, aP, aZ, aS]))
  refine pl_done ?_
  show Code.rounds _ _ _ _ _ _
  rw [rounds_succ]
  refine wk_seq (fun K7 hK7 => ?_)
  refine wk_seq (fun K8 hK8 => ?_)
  refine wk_reg ?_
  refine pl_take (v := ?_) rfl ?_ ?_
  rotate_left
  · (go_simp; first | done | with_reducible rfl | rfl | omega | assumption | (simp; omega))
  (try simp only [Act.put, aP, aZ, aS])
  refine pl_take (v := .bool false) rfl ?_ ?_
  · (go_simp; first | done | with_reducible rfl | rfl | omega | assumption | (simp; omega))
  (try simp only [Act.put, aP, aZ, aS])
  refine pl_done ?_
  refine hK8.out _ _ ?_
  (try clear hK8 K8)
  refine wp_cond_false rfl ?_
  refine wp_exit ?_
  refine hK5.out _ _ ?_
  (try clear hK5 K5)
  refine wk_seq (fun K13 hK13 => ?_)
  refine wk_reg ?_
  refine pl_eff rfl (fun Kp hKp => ?_)
  ((with_reducible apply st_makeMap pairK okK); assumption; intro b57 w57 hs57)
  refine hKp.out _ _ ?_
  clear hKp Kp
  (try simp only [Act.put, aP, aZ, aS])
  refine pl_take (v := ?_) rfl ?_ ?_
  rotate_left
  · (go_simp; first | done | with_reducible rfl | rfl | omega | assumption | (simp; omega))
  (try simp only [Act.put, aP, aZ, aS])
  refine pl_done ?_
  refine hK13.out _ _ ?_
  (try clear hK13 K13)
  refine wk_seq (fun K14 hK14 => ?_)
  refine wk_reg ?_
  refine pl_eff rfl (fun Kp hKp => ?_)
  ((with_reducible apply st_buildSlice); assumption; rfl; (go_simp; rfl); (simp [Value.cells]); omega; intro b58 w58 hs58)
  refine hKp.out _ _ ?_
  clear hKp Kp
  (try simp only [Act.put, aP, aZ, aS])
  refine pl_take (v := ?_) rfl ?_ ?_
  rotate_left
  · (go_simp; first | done | with_reducible rfl | rfl | omega | assumption | (simp; omega))
  (try simp only [Act.put, aP, aZ, aS])
  refine pl_done ?_
  refine hK14.out _ _ ?_
  (try clear hK14 K14)
  refine wk_seq (fun K15 hK15 => ?_)
  refine wk_seq (fun K16 hK16 => ?_)
  refine wk_reg ?_
  refine pl_take (v := ?_) rfl ?_ ?_
  rotate_left
  · (go_simp; first | done | with_reducible rfl | rfl | omega | assumption | (simp; omega))
  (try simp only [Act.put, aP, aZ, aS])
  refine pl_done ?_
  refine hK16.out _ _ ?_
  (try clear hK16 K16)
  refine wp_block ?_
  -- at a loop
  clear hA1 hA2 hA3 hOp hok0 hok1 hok2
  go_loopg [10] (xs.length) (fun g s10 wr => ∃ (k : Nat) (M : Mc) (m : List ((Int × Int) × Value)) (S : Int → Se), s10 = .int .i64 k ∧ xs.length - k ≤ g ∧ k ≤ xs.length ∧ k ≤ 200 ∧ Hid (Onc k M m S) ∧ Sat w0 wr (MR p M :: mp pairK okK b57 m :: own 3 1 (some ⟨b58, 0, none⟩) 4 4 (laL S) :: L))
  case atStart => exact ⟨0, o3M, [], S0, rfl, by omega, Nat.zero_le _, by omega, hone, (by assumption : Sat w0 w58 _).pick (by (repeat (first | exact Pick.nil _ | exact Pick.tail _ | exact Out.here _ | apply Out.there | apply Pick.cons | apply Pick.drop)))⟩
  case round =>
    clear hone
    obtain ⟨k, M, m, S, rfl, hgk, hk, hk2, Hon, hsC⟩ := hrel
    have hMok := Hon.out.ok hk2
    have hcap := Hon.out.cap
    have hNx := fun (w : World) (L' : List HP) (hs : Sat w0 w (MR p M :: L')) => nextMR_spec hMok hs
    rw [Hon.out.st, Int.zero_add] at hNx
    by_cases hlt : k < xs.length
    · by_cases hlt2 : k < 200
      · obtain ⟨x, hx⟩ : ∃ x, xs[k]? = some x := ⟨xs[k], List.getElem?_eq_getElem hlt⟩
        obtain ⟨v, ex, hv⟩ := hel k x hx
        obtain ⟨ga, oa, rfl⟩ := hRv.some_of hs (by omega)
        have hrow := hRv.row_at k hlt
        rw [ex] at hrow
        obtain ⟨xs_, xq, xc⟩ := x
        simp only at hrow hv
        have hc0 : Cl w0 L ⟨ga, oa + k * 3, none⟩ (.int .i64 xs_) := by simpa using hrow.cell_at (j := 0) rfl
        have hc1 : Cl w0 L ⟨ga, oa + k * 3 + 1, none⟩ (.int .i64 xq) := hrow.cell_at (j := 1) rfl
        have hc2 : Cl w0 L ⟨ga, oa + k * 3 + 2, none⟩ (.int .u8 v) := hrow.cell_at (j := 2) rfl
        have i0 : (0 : Int) ≤ (k : Int) := by omega
        have i1 : (k : Int) < (xs.length : Int) := by omega
        have i2 : (k : Int) < 200 := by omega
        have hwk : IntKind.i64.wrap ((k : Int) + 1) = (k : Int) + 1 := IntWalk.i64_in _ (by omega)
        have hw4 : IntKind.i64.wrap (4 + (k : Int)) = 4 + (k : Int) := IntWalk.i64_in _ (by omega)
        have t1 := tmodK_bound xs_ 3 (by omega)
        have t2 := tmodK_bound xq 9 (by omega)
        obtain ⟨r1, hr1⟩ : ∃ r, Int.tmod xs_ 3 = r := ⟨_, rfl⟩
        obtain ⟨r2, hr2⟩ : ∃ r, Int.tmod xq 9 = r := ⟨_, rfl⟩
        rw [hr1] at t1
        rw [hr2] at t2
        have t3 := tmodK_pos (x := r1 + 3) (N := 3) (by omega) (by omega)
        have t4 := tmodK_pos (x := r2 + 9) (N := 9) (by omega) (by omega)
        obtain ⟨f1, hf1⟩ : ∃ r, Int.tmod (r1 + 3) 3 = r := ⟨_, rfl⟩
        obtain ⟨f2, hf2⟩ : ∃ r, Int.tmod (r2 + 9) 9 = r := ⟨_, rfl⟩
        rw [hf1] at t3
        rw [hf2] at t4
        have u1 : IntKind.i64.wrap (r1 + 3) = r1 + 3 := IntWalk.i64_in _ (by omega)
        have u2 : IntKind.i64.wrap (r2 + 9) = r2 + 9 := IntWalk.i64_in _ (by omega)
        have u3 : IntKind.i64.wrap r1 = r1 := IntWalk.i64_in _ (by omega)
        have u4 : IntKind.i64.wrap r2 = r2 := IntWalk.i64_in _ (by omega)
        have u5 : IntKind.i64.wrap f1 = f1 := IntWalk.i64_in _ (by omega)
        have u6 : IntKind.i64.wrap f2 = f2 := IntWalk.i64_in _ (by omega)
        obtain ⟨j, hj⟩ : ∃ j : Nat, 1 + f1 = j := ⟨(1 + f1).toNat, by omega⟩
        obtain ⟨q, hq⟩ : ∃ q : Int, 1 + f2 = q := ⟨_, rfl⟩
        have hj3 : 1 ≤ j ∧ j ≤ 3 := by omega
        have hq9 : 1 ≤ q ∧ q ≤ 9 := by omega
        have u7 : IntKind.i64.wrap (1 + f1) = (j : Int) := by rw [IntWalk.i64_in _ (by omega)]; exact hj
        have u8 : IntKind.i64.wrap (1 + f2) = q := by rw [IntWalk.i64_in _ (by omega)]; exact hq
        have j0 : (0 : Int) ≤ (j : Int) := by omega
        have j1 : (j : Int) < 4 := by omega
        have hok1 : okNum (j : Int) = true := by simp [okNum]; omega
        have hok2 : okNum q = true := by simp [okNum]; omega
        have hPt := fun (w : World) (L' : List HP) (hs : Sat w0 w L') => lput_spec (j : Int) q xc v hv hs
        rw [show (putC (j : Int) q [xc]).1 = cPut j q [xc] from by unfold putC; rw [if_neg (by rw [hok1, hok2]; simp), if_neg (by simp)]] at hPt
        have hpl := cPut_len (j : Int) q [xc] (by omega) (by omega) (by simp)
        simp only [List.length_cons, List.length_nil] at hpl
        have hA := fun (w : World) (L' : List HP) (A : Option Addr) (c : Nat) (hs : Sat w0 w (MR p M :: L')) (h : Rd w0 L' A (cPut j q [xc]).length 1 (B8 (cPut j q [xc]))) => apply_spec (c := c) (4 + (k : Int)) (cPut j q [xc]) hMok (by omega) (by omega) hs h
        have hkq : okK ((j : Int), q) := ⟨by unfold In64; simp only; omega, by unfold In64; simp only; omega⟩
        have hla : Cl w0 (own 3 1 (some ⟨b58, 0, none⟩) 4 4 (laL S) :: L) ⟨b58, j, none⟩ (.int .i64 (S j).q) := by
          intro w hs
          have := (Rd.own (w0 := w0) (L := L) (E := 3) (sz := 1) (A := some ⟨b58, 0, none⟩) (c := 4) (n := 4) (xs := laL S)).elt (laL_at S hj3) w hs
          simpa using this
        have hSq := Hon.out.q j
        have Hj := Hid.mk' hj
        have Hq := Hid.mk' hq
        clear hx ex hrow hj hq hv hel
        rcases Int.lt_trichotomy q (S j).q with hc | hc | hc
        · obtain ⟨M', hap, hl', hon'⟩ := once_old Hon.out hk2 (s := j) (by omega) hq9 xc hc
          rw [hap] at hA
          unfold RetTold at hA
          simp only at hA
          have hNx2 := fun (w : World) (L' : List HP) (hs : Sat w0 w (MR p M' :: L')) => nextMR_spec (hon'.ok (by omega)) hs
          rw [hon'.st, Int.zero_add, hl'] at hNx2
          have hlaE := laL_same S (j := j) ⟨(S j).q, (S j).n, 4 + k⟩ rfl
          obtain ⟨g1, hg1⟩ : ∃ z, (mget m ((j : Int), q)).getD (.int .i64 0) = z := ⟨_, rfl⟩
          obtain ⟨g2, hg2⟩ : ∃ z, (mget m ((j : Int), q)).isSome = z := ⟨_, rfl⟩
          have Hon' := Hid.mk' hon'
          have HlaE := Hid.mk' hlaE
          have hnle : ¬ (S j).q ≤ q := by omega
          obtain ⟨co, hco⟩ : ∃ z, cPut j q [xc] = z := ⟨_, rfl⟩
          rw [hco] at hPt hA
          clear hap hl' hon' hlaE hMok hco hpl
          refine wk_seq (fun K17 hK17 => ?_)
          refine wk_seq (fun K18 hK18 => ?_)
          refine wk_reg ?_
          iterate 3 (refine pl_take (v := ?_) rfl ?_ ?_; rotate_left; (· (go_simp; first | done | with_reducible rfl | rfl | omega | assumption | (simp; omega))); (try simp only [Act.put, aP, aZ, aS]))
          iterate 2 (refine pl_take (v := .bool true) rfl ?_ ?_; (· (go_simp; first | done | with_reducible rfl | rfl | omega | assumption | (simp; omega))); (try simp only [Act.put, aP, aZ, aS]))
          refine pl_take (v := ?_) (by kernel_rfl) ?_ ?_
          rotate_left
          · (go_simp; first | done | with_reducible rfl | rfl | omega | assumption | (simp; omega))
          (try simp only [Act.put, aP, aZ, aS])
          refine pl_take (v := .bool true) (by kernel_rfl) ?_ ?_
          · (go_simp; first | done | with_reducible rfl | rfl | omega | assumption | (simp; omega))
          (try simp only [Act.put, aP, aZ, aS])
          refine pl_take (v := .bool true) rfl ?_ ?_
          · (go_simp; first | done | with_reducible rfl | rfl | omega | assumption | (simp; omega))
          (try simp only [Act.put, aP, aZ, aS])
          refine pl_done ?_
          refine hK18.out _ _ ?_
          (try clear hK18 K18)
          refine wp_cond_true rfl ?_
          refine wp_skip ?_
          refine hK17.out _ _ ?_
          (try clear hK17 K17)
          refine wk_seq (fun K19 hK19 => ?_)
          refine wp_block ?_
          refine wk_seq (fun K20 hK20 => ?_)
          refine wk_reg ?_
          iterate 10 (refine pl_take (v := ?_) rfl ?_ ?_; rotate_left; (· (first | ((with_reducible apply yl_load); assumption; rfl; (repeat (first | with_reducible assumption | ((with_reducible apply Cl.own); exact rfl) | ((with_reducible apply Cl.blkL); exact rfl) | with_reducible apply Cl.cons)); rfl) | (go_simp; first | done | with_reducible rfl | rfl | omega | assumption | (simp; omega)))); (try simp only [Act.put, aP, aZ, aS]))
          refine pl_done ?_
          refine hK20.out _ _ ?_
          (try clear hK20 K20)
          refine wk_seq (fun K21 hK21 => ?_)
          refine wk_reg ?_
          iterate 10 (refine pl_take (v := ?_) rfl ?_ ?_; rotate_left; (· (first | ((with_reducible apply yl_load); assumption; rfl; (repeat (first | with_reducible assumption | ((with_reducible apply Cl.own); exact rfl) | ((with_reducible apply Cl.blkL); exact rfl) | with_reducible apply Cl.cons)); rfl) | (go_simp; first | done | with_reducible rfl | rfl | omega | assumption | (simp; omega)))); (try simp only [Act.put, aP, aZ, aS]))
          refine pl_done ?_
          refine hK21.out _ _ ?_
          (try clear hK21 K21)
          refine wk_seq (fun K22 hK22 => ?_)
          refine wk_reg ?_
          refine pl_take (v := ?_) rfl ?_ ?_
          rotate_left
          · (go_simp; first | done | with_reducible rfl | rfl | omega | assumption | (simp; omega))
          (try simp only [Act.put, aP, aZ, aS])
          refine pl_eff rfl (fun Kp hKp => ?_)
          go_simp
          (refine (hNx _ _ ((by assumption : Sat w0 _ _).pick (.cons (by (repeat (first | with_reducible exact Out.here _ | apply Out.there))) (.tail _)))).mono ?_; rintro e88 w88 ⟨rfl, hs88⟩)
          (try go_wp2_with fail)
          refine hKp.out _ _ ?_
          clear hKp Kp
          (try simp only [Act.put, aP, aZ, aS])
          refine pl_take (v := ?_) rfl ?_ ?_
          rotate_left
          · (go_simp; first | done | with_reducible rfl | rfl | omega | assumption | (simp; omega))
          (try simp only [Act.put, aP, aZ, aS])
          refine pl_done ?_
          refine hK22.out _ _ ?_
          (try clear hK22 K22)
          refine wk_seq (fun K23 hK23 => ?_)
          refine wk_reg ?_
          iterate 10 (refine pl_take (v := ?_) rfl ?_ ?_; rotate_left; (· (first | ((with_reducible apply yl_load); assumption; rfl; (repeat (first | with_reducible assumption | ((with_reducible apply Cl.own); exact rfl) | ((with_reducible apply Cl.blkL); exact rfl) | with_reducible apply Cl.cons)); rfl) | (go_simp; first | done | with_reducible rfl | rfl | omega | assumption | (simp; omega)))); (try simp only [Act.put, aP, aZ, aS]))
          refine pl_eff rfl (fun Kp hKp => ?_)
          go_simp
          (refine (hPt _ _ (by assumption)).mono ?_; rintro e100 w100 ⟨B100, c100, rfl, hs100⟩)
          (try go_wp2_with fail)
          refine hKp.out _ _ ?_
          clear hKp Kp
          (try simp only [Act.put, aP, aZ, aS])
          refine pl_eff rfl (fun Kp hKp => ?_)
          go_simp
          (refine (hA _ _ _ _ ((by assumption : Sat w0 _ _).pick (.cons (by (repeat (first | with_reducible exact Out.here _ | apply Out.there))) (.tail _))) (by (repeat (first | with_reducible assumption | with_reducible exact Rd.own | with_reducible exact Rd.nil | with_reducible apply Rd.cons)))).mono ?_; rintro e101 w101 ⟨rfl, hs101⟩)
          (try go_wp2_with fail)
          refine hKp.out _ _ ?_
          clear hKp Kp
          (try simp only [Act.put, aP, aZ, aS])
          iterate 3 (refine pl_take (v := ?_) rfl ?_ ?_; rotate_left; (· (go_simp; first | done | with_reducible rfl | rfl | omega | assumption | (simp; omega))); (try simp only [Act.put, aP, aZ, aS]))
          refine pl_eff rfl (fun Kp hKp => ?_)
          ((with_reducible apply st_alloc); assumption; intro b14 w14 hs14; simp only [Value.cells] at hs14)
          refine hKp.out _ _ ?_
          clear hKp Kp
          (try simp only [Act.put, aP, aZ, aS])
          refine pl_eff rfl (fun Kp hKp => ?_)
          (first | ((with_reducible apply st_storeAll); assumption; rfl; (go_simp; rfl); (repeat (first | with_reducible exact Out.here _ | apply Out.there)); rfl; (focus (first | (simp [Value.oneCell']; done) | (simp [Value.cells, Value.oneCell']; done))); rfl; intro wr18_16 hsr18_16; simp only [Value.cells] at hsr18_16) | ((with_reducible apply st_store); assumption; rfl; (go_simp; rfl); (repeat (first | with_reducible exact Out.here _ | apply Out.there)); rfl; (first | (focus (simp [Value.oneCell']; done)) | (simp [Value.cells, Value.oneCell'])); (first | (focus (simp; done)) | (simp [Value.cells])); intro wr18_16 hsr18_16; simp only [upd, Value.cells] at hsr18_16))
          refine hKp.out _ _ ?_
          clear hKp Kp
          (try dsimp only [Act.put])
          refine pl_take (v := ?_) rfl ?_ ?_
          rotate_left
          · (go_simp; first | done | with_reducible rfl | rfl | omega | assumption | (simp; omega))
          (try simp only [Act.put, aP, aZ, aS])
          refine pl_done ?_
          refine hK23.out _ _ ?_
          (try clear hK23 K23)
          refine wk_seq (fun K24 hK24 => ?_)
          refine wk_reg ?_
          iterate 4 (refine pl_take (v := ?_) rfl ?_ ?_; rotate_left; (· (go_simp; first | done | with_reducible rfl | rfl | omega | assumption | (simp; omega))); (try simp only [Act.put, aP, aZ, aS]))
          refine pl_take (v := (.tuple #[g1, .bool g2])) rfl ?_ ?_
          · ((with_reducible apply yl_lookupV (xk := ((j : Int), q)) ktPair); assumption; rfl; rfl; (repeat (first | with_reducible exact Out.here _ | apply Out.there)); exact hkq; (simp only [if_true]; rw [hg1, hg2]))
          (try simp only [Act.put, aP, aZ, aS])
          iterate 5 (refine pl_take (v := ?_) rfl ?_ ?_; rotate_left; (· (go_simp; first | done | with_reducible rfl | rfl | omega | assumption | (simp; omega))); (try simp only [Act.put, aP, aZ, aS]))
          refine pl_done ?_
          refine hK24.out _ _ ?_
          (try clear hK24 K24)
          refine wk_seq (fun K25 hK25 => ?_)
          refine wk_seq (fun K26 hK26 => ?_)
          refine wk_reg ?_
          refine pl_take (v := ?_) rfl ?_ ?_
          rotate_left
          · (go_simp; first | done | with_reducible rfl | rfl | omega | assumption | (simp; omega))
          (try simp only [Act.put, aP, aZ, aS])
          refine pl_eff rfl (fun Kp hKp => ?_)
          go_simp
          ((refine (numL_spec _ (by assumption)).mono ?_); rintro e113 w113 ⟨rfl, hs113⟩)
          (try go_wp2_with fail)
          refine hKp.out _ _ ?_
          clear hKp Kp
          (try simp only [Act.put, aP, aZ, aS])
          iterate 2 (refine pl_take (v := .bool false) rfl ?_ ?_; (· (go_simp; first | done | with_reducible rfl | rfl | omega | assumption | (simp; omega))); (try simp only [Act.put, aP, aZ, aS]))
          iterate 2 (refine pl_take (v := ?_) (by kernel_rfl) ?_ ?_; rotate_left; (· (first | ((with_reducible apply yl_load); assumption; rfl; (repeat (first | with_reducible assumption | ((with_reducible apply Cl.own); exact rfl) | ((with_reducible apply Cl.blkL); exact rfl) | with_reducible apply Cl.cons)); rfl) | (go_simp; first | done | with_reducible rfl | rfl | omega | assumption | (simp; omega)))); (try simp only [Act.put, aP, aZ, aS]))
          refine pl_eff (by kernel_rfl) (fun Kp hKp => ?_)
          go_simp
          ((refine (numL_spec _ (by assumption)).mono ?_); rintro e118 w118 ⟨rfl, hs118⟩)
          (try go_wp2_with fail)
          refine hKp.out _ _ ?_
          clear hKp Kp
          (try simp only [Act.put, aP, aZ, aS])
          iterate 2 (refine pl_take (v := .bool true) (by kernel_rfl) ?_ ?_; (· (go_simp; first | done | with_reducible rfl | rfl | omega | assumption | (simp; omega))); (try simp only [Act.put, aP, aZ, aS]))
          iterate 2 (refine pl_take (v := ?_) (by kernel_rfl) ?_ ?_; rotate_left; (· (first | ((with_reducible apply yl_load); assumption; rfl; (repeat (first | with_reducible assumption | ((with_reducible apply Cl.own); exact rfl) | ((with_reducible apply Cl.blkL); exact rfl) | with_reducible apply Cl.cons)); rfl) | (go_simp; first | done | with_reducible rfl | rfl | omega | assumption | (simp; omega)))); (try simp only [Act.put, aP, aZ, aS]))
          refine pl_eff (by kernel_rfl) (fun Kp hKp => ?_)
          go_simp
          ((refine (numL_spec _ (by assumption)).mono ?_); rintro e123 w123 ⟨rfl, hs123⟩)
          (try go_wp2_with fail)
          refine hKp.out _ _ ?_
          clear hKp Kp
          (try simp only [Act.put, aP, aZ, aS])
          iterate 2 (refine pl_take (v := .bool false) (by kernel_rfl) ?_ ?_; (· (go_simp; first | done | with_reducible rfl | rfl | omega | assumption | (simp; omega))); (try simp only [Act.put, aP, aZ, aS]))
          iterate 5 (refine pl_take (v := ?_) (by kernel_rfl) ?_ ?_; rotate_left; (· (first | ((with_reducible apply yl_load); assumption; rfl; (repeat (first | with_reducible assumption | ((with_reducible apply Cl.own); exact rfl) | ((with_reducible apply Cl.blkL); exact rfl) | with_reducible apply Cl.cons)); rfl) | (go_simp; first | done | with_reducible rfl | rfl | omega | assumption | (simp; omega)))); (try simp only [Act.put, aP, aZ, aS]))
          iterate 3 (refine pl_take (v := .bool false) (by kernel_rfl) ?_ ?_; (· (go_simp; first | done | with_reducible rfl | rfl | omega | assumption | (simp; omega))); (try simp only [Act.put, aP, aZ, aS]))
          refine pl_take (v := ?_) (by kernel_rfl) ?_ ?_
          rotate_left
          · (go_simp; first | done | with_reducible rfl | rfl | omega | assumption | (simp; omega))
          (try simp only [Act.put, aP, aZ, aS])
          refine pl_eff (by kernel_rfl) (fun Kp hKp => ?_)
          go_simp
          (refine (hNx2 _ _ ((by assumption : Sat w0 _ _).pick (.cons (by (repeat (first | with_reducible exact Out.here _ | apply Out.there))) (.tail _)))).mono ?_; rintro e135 w135 ⟨rfl, hs135⟩)
          (try go_wp2_with fail)
          refine hKp.out _ _ ?_
          clear hKp Kp
          (try simp only [Act.put, aP, aZ, aS])
          refine pl_take (v := ?_) (by kernel_rfl) ?_ ?_
          rotate_left
          · (go_simp; first | done | with_reducible rfl | rfl | omega | assumption | (simp; omega))
          (try simp only [Act.put, aP, aZ, aS])
          iterate 3 (refine pl_take (v := .bool false) (by kernel_rfl) ?_ ?_; (· (go_simp; first | done | with_reducible rfl | rfl | omega | assumption | (simp; omega))); (try simp only [Act.put, aP, aZ, aS]))
          refine pl_take (v := .bool false) rfl ?_ ?_
          · (go_simp; first | done | with_reducible rfl | rfl | omega | assumption | (simp; omega))
          (try simp only [Act.put, aP, aZ, aS])
          refine pl_done ?_
          refine hK26.out _ _ ?_
          (try clear hK26 K26)
          refine wp_cond_false rfl ?_
          refine wp_skip ?_
          refine hK25.out _ _ ?_
          (try clear hK25 K25)
          refine wk_seq (fun K28 hK28 => ?_)
          refine wk_seq (fun K29 hK29 => ?_)
          refine wk_reg ?_
          iterate 2 (refine pl_take (v := ?_) rfl ?_ ?_; rotate_left; (· (first | ((with_reducible apply yl_load); assumption; rfl; (repeat (first | with_reducible assumption | ((with_reducible apply Cl.own); exact rfl) | ((with_reducible apply Cl.blkL); exact rfl) | with_reducible apply Cl.cons)); rfl) | (go_simp; first | done | with_reducible rfl | rfl | omega | assumption | (simp; omega)))); (try simp only [Act.put, aP, aZ, aS]))
          refine pl_eff rfl (fun Kp hKp => ?_)
          go_simp
          ((refine (numL_spec _ (by assumption)).mono ?_); rintro e143 w143 ⟨rfl, hs143⟩)
          (try go_wp2_with fail)
          refine hKp.out _ _ ?_
          clear hKp Kp
          (try simp only [Act.put, aP, aZ, aS])
          refine pl_take (v := .bool true) rfl ?_ ?_
          · (go_simp; first | done | with_reducible rfl | rfl | omega | assumption | (simp; omega))
          (try simp only [Act.put, aP, aZ, aS])
          refine pl_done ?_
          refine hK29.out _ _ ?_
          (try clear hK29 K29)
          refine wp_cond_true rfl ?_
          refine wp_exit ?_
          refine hK19.out _ _ ?_
          (try clear hK19 K19)
          refine wk_reg ?_
          iterate 3 (refine pl_take (v := ?_) rfl ?_ ?_; rotate_left; (· (go_simp; first | done | with_reducible rfl | rfl | omega | assumption | (simp; omega))); (try simp only [Act.put, aP, aZ, aS]))
          refine pl_done ?_
          (try dsimp only [Exit.inBlock, Exit.then])
          refine (by assumption : ∀ a' w', Handed _ _ a' w' → _) _ _ ?_
          go_roundg (gk - 1)
          case rel => exact ⟨k + 1, M', m, _, by go_num, by omega, by omega, by omega, Hon', by rw [HlaE.out]; exact (by assumption : Sat w0 _ _).pick (by (repeat (first | exact Pick.nil _ | exact Pick.tail _ | exact Out.here _ | apply Out.there | apply Pick.cons | apply Pick.drop)))⟩
          case measure => omega
        · obtain ⟨M', hap, hl', hmg, hon'⟩ := once_same Hon.out hk2 (s := j) (by omega) hq9 xc hc
          rw [hap] at hA
          unfold RetTold at hA
          simp only at hA
          have hNx2 := fun (w : World) (L' : List HP) (hs : Sat w0 w (MR p M' :: L')) => nextMR_spec (hon'.ok (by omega)) hs
          rw [hon'.st, Int.zero_add, hl'] at hNx2
          have hlaE := laL_set S hj3 ⟨(S j).q, (S j).n, 4 + k⟩
          simp only at hlaE
          obtain ⟨sn, hsn⟩ : ∃ z, (S j).n = z := ⟨_, rfl⟩
          rw [hsn] at hA hmg hon' hlaE
          rw [← hc] at hlaE hla hon'
          have Hon' := Hid.mk' hon'
          have HlaE := Hid.mk' hlaE
          have Hmg := Hid.mk' hmg
          obtain ⟨co, hco⟩ : ∃ z, cPut j q [xc] = z := ⟨_, rfl⟩
          rw [hco] at hPt hA
          clear hap hl' hon' hlaE hMok hco hpl hc hsn hSq hmg
          refine wk_seq (fun K17 hK17 => ?_)
          refine wk_seq (fun K18 hK18 => ?_)
          refine wk_reg ?_
          iterate 3 (refine pl_take (v := ?_) rfl ?_ ?_; rotate_left; (· (go_simp; first | done | with_reducible rfl | rfl | omega | assumption | (simp; omega))); (try simp only [Act.put, aP, aZ, aS]))
          iterate 2 (refine pl_take (v := .bool true) rfl ?_ ?_; (· (go_simp; first | done | with_reducible rfl | rfl | omega | assumption | (simp; omega))); (try simp only [Act.put, aP, aZ, aS]))
          refine pl_take (v := ?_) (by kernel_rfl) ?_ ?_
          rotate_left
          · (go_simp; first | done | with_reducible rfl | rfl | omega | assumption | (simp; omega))
          (try simp only [Act.put, aP, aZ, aS])
          refine pl_take (v := .bool true) (by kernel_rfl) ?_ ?_
          · (go_simp; first | done | with_reducible rfl | rfl | omega | assumption | (simp; omega))
          (try simp only [Act.put, aP, aZ, aS])
          refine pl_take (v := .bool true) rfl ?_ ?_
          · (go_simp; first | done | with_reducible rfl | rfl | omega | assumption | (simp; omega))
          (try simp only [Act.put, aP, aZ, aS])
          refine pl_done ?_
          refine hK18.out _ _ ?_
          (try clear hK18 K18)
          refine wp_cond_true rfl ?_
          refine wp_skip ?_
          refine hK17.out _ _ ?_
          (try clear hK17 K17)
          refine wk_seq (fun K19 hK19 => ?_)
          refine wp_block ?_
          refine wk_seq (fun K20 hK20 => ?_)
          refine wk_reg ?_
          iterate 10 (refine pl_take (v := ?_) rfl ?_ ?_; rotate_left; (· (first | ((with_reducible apply yl_load); assumption; rfl; (repeat (first | with_reducible assumption | ((with_reducible apply Cl.own); exact rfl) | ((with_reducible apply Cl.blkL); exact rfl) | with_reducible apply Cl.cons)); rfl) | (go_simp; first | done | with_reducible rfl | rfl | omega | assumption | (simp; omega)))); (try simp only [Act.put, aP, aZ, aS]))
          refine pl_done ?_
          refine hK20.out _ _ ?_
          (try clear hK20 K20)
          refine wk_seq (fun K21 hK21 => ?_)
          refine wk_reg ?_
          iterate 10 (refine pl_take (v := ?_) rfl ?_ ?_; rotate_left; (· (first | ((with_reducible apply yl_load); assumption; rfl; (repeat (first | with_reducible assumption | ((with_reducible apply Cl.own); exact rfl) | ((with_reducible apply Cl.blkL); exact rfl) | with_reducible apply Cl.cons)); rfl) | (go_simp; first | done | with_reducible rfl | rfl | omega | assumption | (simp; omega)))); (try simp only [Act.put, aP, aZ, aS]))
          refine pl_done ?_
          refine hK21.out _ _ ?_
          (try clear hK21 K21)
          refine wk_seq (fun K22 hK22 => ?_)
          refine wk_reg ?_
          refine pl_take (v := ?_) rfl ?_ ?_
          rotate_left
          · (go_simp; first | done | with_reducible rfl | rfl | omega | assumption | (simp; omega))
          (try simp only [Act.put, aP, aZ, aS])
          refine pl_eff rfl (fun Kp hKp => ?_)
          go_simp
          (refine (hNx _ _ ((by assumption : Sat w0 _ _).pick (.cons (by (repeat (first | with_reducible exact Out.here _ | apply Out.there))) (.tail _)))).mono ?_; rintro e88 w88 ⟨rfl, hs88⟩)
          (try go_wp2_with fail)
          refine hKp.out _ _ ?_
          clear hKp Kp
          (try simp only [Act.put, aP, aZ, aS])
          refine pl_take (v := ?_) rfl ?_ ?_
          rotate_left
          · (go_simp; first | done | with_reducible rfl | rfl | omega | assumption | (simp; omega))
          (try simp only [Act.put, aP, aZ, aS])
          refine pl_done ?_
          refine hK22.out _ _ ?_
          (try clear hK22 K22)
          refine wk_seq (fun K23 hK23 => ?_)
          refine wk_reg ?_
          iterate 10 (refine pl_take (v := ?_) rfl ?_ ?_; rotate_left; (· (first | ((with_reducible apply yl_load); assumption; rfl; (repeat (first | with_reducible assumption | ((with_reducible apply Cl.own); exact rfl) | ((with_reducible apply Cl.blkL); exact rfl) | with_reducible apply Cl.cons)); rfl) | (go_simp; first | done | with_reducible rfl | rfl | omega | assumption | (simp; omega)))); (try simp only [Act.put, aP, aZ, aS]))
          refine pl_eff rfl (fun Kp hKp => ?_)
          go_simp
          (refine (hPt _ _ (by assumption)).mono ?_; rintro e100 w100 ⟨B100, c100, rfl, hs100⟩)
          (try go_wp2_with fail)
          refine hKp.out _ _ ?_
          clear hKp Kp
          (try simp only [Act.put, aP, aZ, aS])
          refine pl_eff rfl (fun Kp hKp => ?_)
          go_simp
          (refine (hA _ _ _ _ ((by assumption : Sat w0 _ _).pick (.cons (by (repeat (first | with_reducible exact Out.here _ | apply Out.there))) (.tail _))) (by (repeat (first | with_reducible assumption | with_reducible exact Rd.own | with_reducible exact Rd.nil | with_reducible apply Rd.cons)))).mono ?_; rintro e101 w101 ⟨rfl, hs101⟩)
          (try go_wp2_with fail)
          refine hKp.out _ _ ?_
          clear hKp Kp
          (try simp only [Act.put, aP, aZ, aS])
          iterate 3 (refine pl_take (v := ?_) rfl ?_ ?_; rotate_left; (· (go_simp; first | done | with_reducible rfl | rfl | omega | assumption | (simp; omega))); (try simp only [Act.put, aP, aZ, aS]))
          refine pl_eff rfl (fun Kp hKp => ?_)
          ((with_reducible apply st_alloc); assumption; intro b14 w14 hs14; simp only [Value.cells] at hs14)
          refine hKp.out _ _ ?_
          clear hKp Kp
          (try simp only [Act.put, aP, aZ, aS])
          refine pl_eff rfl (fun Kp hKp => ?_)
          (first | ((with_reducible apply st_storeAll); assumption; rfl; (go_simp; rfl); (repeat (first | with_reducible exact Out.here _ | apply Out.there)); rfl; (focus (first | (simp [Value.oneCell']; done) | (simp [Value.cells, Value.oneCell']; done))); rfl; intro wr18_16 hsr18_16; simp only [Value.cells] at hsr18_16) | ((with_reducible apply st_store); assumption; rfl; (go_simp; rfl); (repeat (first | with_reducible exact Out.here _ | apply Out.there)); rfl; (first | (focus (simp [Value.oneCell']; done)) | (simp [Value.cells, Value.oneCell'])); (first | (focus (simp; done)) | (simp [Value.cells])); intro wr18_16 hsr18_16; simp only [upd, Value.cells] at hsr18_16))
          refine hKp.out _ _ ?_
          clear hKp Kp
          (try dsimp only [Act.put])
          refine pl_take (v := ?_) rfl ?_ ?_
          rotate_left
          · (go_simp; first | done | with_reducible rfl | rfl | omega | assumption | (simp; omega))
          (try simp only [Act.put, aP, aZ, aS])
          refine pl_done ?_
          refine hK23.out _ _ ?_
          (try clear hK23 K23)
          refine wk_seq (fun K24 hK24 => ?_)
          refine wk_reg ?_
          iterate 4 (refine pl_take (v := ?_) rfl ?_ ?_; rotate_left; (· (go_simp; first | done | with_reducible rfl | rfl | omega | assumption | (simp; omega))); (try simp only [Act.put, aP, aZ, aS]))
          refine pl_take (v := (.tuple #[.int .i64 sn, .bool true])) rfl ?_ ?_
          · ((with_reducible apply yl_lookupV (xk := ((j : Int), q)) ktPair); assumption; rfl; rfl; (repeat (first | with_reducible exact Out.here _ | apply Out.there)); exact hkq; (simp only [if_true]; rw [Hmg.out]; rfl))
          (try simp only [Act.put, aP, aZ, aS])
          iterate 2 (refine pl_take (v := ?_) rfl ?_ ?_; rotate_left; (· (go_simp; first | done | with_reducible rfl | rfl | omega | assumption | (simp; omega))); (try simp only [Act.put, aP, aZ, aS]))
          refine pl_take (v := .bool true) rfl ?_ ?_
          · (go_simp; first | done | with_reducible rfl | rfl | omega | assumption | (simp; omega))
          (try simp only [Act.put, aP, aZ, aS])
          refine pl_take (v := ?_) rfl ?_ ?_
          rotate_left
          · (go_simp; first | done | with_reducible rfl | rfl | omega | assumption | (simp; omega))
          (try simp only [Act.put, aP, aZ, aS])
          refine pl_take (v := .bool true) rfl ?_ ?_
          · (go_simp; first | done | with_reducible rfl | rfl | omega | assumption | (simp; omega))
          (try simp only [Act.put, aP, aZ, aS])
          refine pl_done ?_
          refine hK24.out _ _ ?_
          (try clear hK24 K24)
          refine wk_seq (fun K25 hK25 => ?_)
          refine wk_seq (fun K26 hK26 => ?_)
          refine wk_reg ?_
          refine pl_take (v := ?_) rfl ?_ ?_
          rotate_left
          · (go_simp; first | done | with_reducible rfl | rfl | omega | assumption | (simp; omega))
          (try simp only [Act.put, aP, aZ, aS])
          refine pl_eff rfl (fun Kp hKp => ?_)
          go_simp
          ((refine (numL_spec _ (by assumption)).mono ?_); rintro e113 w113 ⟨rfl, hs113⟩)
          (try go_wp2_with fail)
          refine hKp.out _ _ ?_
          clear hKp Kp
          (try simp only [Act.put, aP, aZ, aS])
          iterate 2 (refine pl_take (v := .bool false) rfl ?_ ?_; (· (go_simp; first | done | with_reducible rfl | rfl | omega | assumption | (simp; omega))); (try simp only [Act.put, aP, aZ, aS]))
          iterate 2 (refine pl_take (v := ?_) (by kernel_rfl) ?_ ?_; rotate_left; (· (first | ((with_reducible apply yl_load); assumption; rfl; (repeat (first | with_reducible assumption | ((with_reducible apply Cl.own); exact rfl) | ((with_reducible apply Cl.blkL); exact rfl) | with_reducible apply Cl.cons)); rfl) | (go_simp; first | done | with_reducible rfl | rfl | omega | assumption | (simp; omega)))); (try simp only [Act.put, aP, aZ, aS]))
          refine pl_eff (by kernel_rfl) (fun Kp hKp => ?_)
          go_simp
          ((refine (numL_spec _ (by assumption)).mono ?_); rintro e118 w118 ⟨rfl, hs118⟩)
          (try go_wp2_with fail)
          refine hKp.out _ _ ?_
          clear hKp Kp
          (try simp only [Act.put, aP, aZ, aS])
          iterate 2 (refine pl_take (v := .bool false) (by kernel_rfl) ?_ ?_; (· (go_simp; first | done | with_reducible rfl | rfl | omega | assumption | (simp; omega))); (try simp only [Act.put, aP, aZ, aS]))
          iterate 18 (refine pl_skip (by kernel_rfl) ?_; (try simp only [Act.put, aP, aZ, aS]))
          refine pl_take (v := .bool false) (by kernel_rfl) ?_ ?_
          · (go_simp; first | done | with_reducible rfl | rfl | omega | assumption | (simp; omega))
          (try simp only [Act.put, aP, aZ, aS])
          refine pl_take (v := .bool false) rfl ?_ ?_
          · (go_simp; first | done | with_reducible rfl | rfl | omega | assumption | (simp; omega))
          (try simp only [Act.put, aP, aZ, aS])
          refine pl_done ?_
          refine hK26.out _ _ ?_
          (try clear hK26 K26)
          refine wp_cond_false rfl ?_
          refine wp_skip ?_
          refine hK25.out _ _ ?_
          (try clear hK25 K25)
          refine wk_seq (fun K28 hK28 => ?_)
          refine wk_seq (fun K29 hK29 => ?_)
          refine wk_reg ?_
          iterate 2 (refine pl_take (v := ?_) rfl ?_ ?_; rotate_left; (· (first | ((with_reducible apply yl_load); assumption; rfl; (repeat (first | with_reducible assumption | ((with_reducible apply Cl.own); exact rfl) | ((with_reducible apply Cl.blkL); exact rfl) | with_reducible apply Cl.cons)); rfl) | (go_simp; first | done | with_reducible rfl | rfl | omega | assumption | (simp; omega)))); (try simp only [Act.put, aP, aZ, aS]))
          refine pl_eff rfl (fun Kp hKp => ?_)
          go_simp
          ((refine (numL_spec _ (by assumption)).mono ?_); rintro e143 w143 ⟨rfl, hs143⟩)
          (try go_wp2_with fail)
          refine hKp.out _ _ ?_
          clear hKp Kp
          (try simp only [Act.put, aP, aZ, aS])
          refine pl_take (v := .bool false) rfl ?_ ?_
          · (go_simp; first | done | with_reducible rfl | rfl | omega | assumption | (simp; omega))
          (try simp only [Act.put, aP, aZ, aS])
          refine pl_done ?_
          refine hK29.out _ _ ?_
          (try clear hK29 K29)
          refine wp_cond_false rfl ?_
          refine wp_skip ?_
          refine hK28.out _ _ ?_
          (try clear hK28 K28)
          refine wk_seq (fun K30 hK30 => ?_)
          refine wk_seq (fun K31 hK31 => ?_)
          refine wk_reg ?_
          refine pl_take (v := .bool true) rfl ?_ ?_
          · (go_simp; first | done | with_reducible rfl | rfl | omega | assumption | (simp; omega))
          (try simp only [Act.put, aP, aZ, aS])
          refine pl_take (v := ?_) rfl ?_ ?_
          rotate_left
          · (go_simp; first | done | with_reducible rfl | rfl | omega | assumption | (simp; omega))
          (try simp only [Act.put, aP, aZ, aS])
          refine pl_eff rfl (fun Kp hKp => ?_)
          go_simp
          (refine (hNx2 _ _ ((by assumption : Sat w0 _ _).pick (.cons (by (repeat (first | with_reducible exact Out.here _ | apply Out.there))) (.tail _)))).mono ?_; rintro e147 w147 ⟨rfl, hs147⟩)
          (try go_wp2_with fail)
          refine hKp.out _ _ ?_
          clear hKp Kp
          (try simp only [Act.put, aP, aZ, aS])
          refine pl_take (v := ?_) rfl ?_ ?_
          rotate_left
          · (go_simp; first | done | with_reducible rfl | rfl | omega | assumption | (simp; omega))
          (try simp only [Act.put, aP, aZ, aS])
          refine pl_take (v := .bool true) rfl ?_ ?_
          · (go_simp; first | done | with_reducible rfl | rfl | omega | assumption | (simp; omega))
          (try simp only [Act.put, aP, aZ, aS])
          iterate 2 (refine pl_take (v := .bool false) rfl ?_ ?_; (· (go_simp; first | done | with_reducible rfl | rfl | omega | assumption | (simp; omega))); (try simp only [Act.put, aP, aZ, aS]))
          iterate 2 (refine pl_take (v := .bool true) (by kernel_rfl) ?_ ?_; (· (go_simp; first | done | with_reducible rfl | rfl | omega | assumption | (simp; omega))); (try simp only [Act.put, aP, aZ, aS]))
          iterate 3 (refine pl_take (v := ?_) (by kernel_rfl) ?_ ?_; rotate_left; (· (first | ((with_reducible apply yl_load); assumption; rfl; (repeat (first | with_reducible assumption | ((with_reducible apply Cl.own); exact rfl) | ((with_reducible apply Cl.blkL); exact rfl) | with_reducible apply Cl.cons)); rfl) | (go_simp; first | done | with_reducible rfl | rfl | omega | assumption | (simp; omega)))); (try simp only [Act.put, aP, aZ, aS]))
          iterate 2 (refine pl_take (v := .bool false) (by kernel_rfl) ?_ ?_; (· (go_simp; first | done | with_reducible rfl | rfl | omega | assumption | (simp; omega))); (try simp only [Act.put, aP, aZ, aS]))
          iterate 2 (refine pl_take (v := .bool false) rfl ?_ ?_; (· (go_simp; first | done | with_reducible rfl | rfl | omega | assumption | (simp; omega))); (try simp only [Act.put, aP, aZ, aS]))
          refine pl_take (v := .bool true) (by kernel_rfl) ?_ ?_
          · (go_simp; first | done | with_reducible rfl | rfl | omega | assumption | (simp; omega))
          (try simp only [Act.put, aP, aZ, aS])
          iterate 2 (refine pl_take (v := .bool false) (by kernel_rfl) ?_ ?_; (· (go_simp; first | done | with_reducible rfl | rfl | omega | assumption | (simp; omega))); (try simp only [Act.put, aP, aZ, aS]))
          iterate 4 (refine pl_skip (by kernel_rfl) ?_; (try simp only [Act.put, aP, aZ, aS]))
          refine pl_take (v := .bool false) (by kernel_rfl) ?_ ?_
          · (go_simp; first | done | with_reducible rfl | rfl | omega | assumption | (simp; omega))
          (try simp only [Act.put, aP, aZ, aS])
          refine pl_take (v := .bool false) rfl ?_ ?_
          · (go_simp; first | done | with_reducible rfl | rfl | omega | assumption | (simp; omega))
          (try simp only [Act.put, aP, aZ, aS])
          refine pl_done ?_
          refine hK31.out _ _ ?_
          (try clear hK31 K31)
          refine wp_cond_false rfl ?_
          refine wp_skip ?_
          refine hK30.out _ _ ?_
          (try clear hK30 K30)
          refine wk_seq (fun K33 hK33 => ?_)
          refine wk_reg ?_
          iterate 6 (refine pl_take (v := ?_) rfl ?_ ?_; rotate_left; (· (first | ((with_reducible apply yl_load); assumption; rfl; (repeat (first | with_reducible assumption | ((with_reducible apply Cl.own); exact rfl) | ((with_reducible apply Cl.blkL); exact rfl) | with_reducible apply Cl.cons)); rfl) | (go_simp; first | done | with_reducible rfl | rfl | omega | assumption | (simp; omega)))); (try simp only [Act.put, aP, aZ, aS]))
          refine pl_eff rfl (fun Kp hKp => ?_)
          ((with_reducible apply st_mapUpdate (xk := ((j : Int), q)) ktPair); assumption; rfl; rfl; (go_simp; rfl); (repeat (first | with_reducible exact Out.here _ | apply Out.there)); exact hkq; intro wr25_6 hsr25_6)
          refine hKp.out _ _ ?_
          clear hKp Kp
          (try dsimp only [Act.put])
          refine pl_done ?_
          refine hK33.out _ _ ?_
          (try clear hK33 K33)
          refine wk_reg ?_
          iterate 4 (refine pl_take (v := ?_) rfl ?_ ?_; rotate_left; (· (go_simp; first | done | with_reducible rfl | rfl | omega | assumption | (simp; omega))); (try simp only [Act.put, aP, aZ, aS]))
          refine pl_eff rfl (fun Kp hKp => ?_)
          ((with_reducible apply st_store_own); assumption; rfl; (go_simp; rfl); (repeat (first | with_reducible exact Out.here _ | apply Out.there)); rfl; rfl; omega; intro wr26_4 hsr26_4)
          refine hKp.out _ _ ?_
          clear hKp Kp
          (try dsimp only [Act.put])
          refine pl_done ?_
          refine hK19.out _ _ ?_
          (try clear hK19 K19)
          refine wk_reg ?_
          iterate 3 (refine pl_take (v := ?_) rfl ?_ ?_; rotate_left; (· (go_simp; first | done | with_reducible rfl | rfl | omega | assumption | (simp; omega))); (try simp only [Act.put, aP, aZ, aS]))
          refine pl_done ?_
          (try dsimp only [Exit.inBlock, Exit.then])
          refine (by assumption : ∀ a' w', Handed _ _ a' w' → _) _ _ ?_
          go_roundg (gk - 1)
          case rel => exact ⟨k + 1, M', _, _, by go_num, by omega, by omega, by omega, Hon', by rw [← HlaE.out]; exact (by assumption : Sat w0 _ _).pick (by (repeat (first | exact Pick.nil _ | exact Pick.tail _ | exact Out.here _ | apply Out.there | apply Pick.cons | apply Pick.drop)))⟩
          case measure => omega
        · obtain ⟨M', hap, hl', hmg, hon'⟩ := once_new Hon.out hk2 (s := j) (by omega) hq9 xc hc
          rw [hap] at hA
          unfold RetTold at hA
          simp only at hA
          have hNx2 := fun (w : World) (L' : List HP) (hs : Sat w0 w (MR p M' :: L')) => nextMR_spec (hon'.ok (by omega)) hs
          rw [hon'.st, Int.zero_add, hl'] at hNx2
          have hlaE := laL_set S hj3 ⟨q, M.l.length, 4 + k⟩
          simp only at hlaE
          obtain ⟨ln, hln⟩ : ∃ z, M.l.length = z := ⟨_, rfl⟩
          rw [hln] at hA hon' hlaE hNx2 hNx
          have hne : (((ln + 1 : Nat) : Int) == (ln : Int)) = false := by simp; omega
          have Hon' := Hid.mk' hon'
          have HlaE := Hid.mk' hlaE
          have Hmg := Hid.mk' hmg
          obtain ⟨co, hco⟩ : ∃ z, cPut j q [xc] = z := ⟨_, rfl⟩
          rw [hco] at hPt hA
          clear hap hl' hon' hlaE hMok hco hpl hc hSq hmg hln
          refine wk_seq (fun K17 hK17 => ?_)
          refine wk_seq (fun K18 hK18 => ?_)
          refine wk_reg ?_
          iterate 3 (refine pl_take (v := ?_) rfl ?_ ?_; rotate_left; (· (go_simp; first | done | with_reducible rfl | rfl | omega | assumption | (simp; omega))); (try simp only [Act.put, aP, aZ, aS]))
          iterate 2 (refine pl_take (v := .bool true) rfl ?_ ?_; (· (go_simp; first | done | with_reducible rfl | rfl | omega | assumption | (simp; omega))); (try simp only [Act.put, aP, aZ, aS]))
          refine pl_take (v := ?_) (by kernel_rfl) ?_ ?_
          rotate_left
          · (go_simp; first | done | with_reducible rfl | rfl | omega | assumption | (simp; omega))
          (try simp only [Act.put, aP, aZ, aS])
          refine pl_take (v := .bool true) (by kernel_rfl) ?_ ?_
          · (go_simp; first | done | with_reducible rfl | rfl | omega | assumption | (simp; omega))
          (try simp only [Act.put, aP, aZ, aS])
          refine pl_take (v := .bool true) rfl ?_ ?_
          · (go_simp; first | done | with_reducible rfl | rfl | omega | assumption | (simp; omega))
          (try simp only [Act.put, aP, aZ, aS])
          refine pl_done ?_
          refine hK18.out _ _ ?_
          (try clear hK18 K18)
          refine wp_cond_true rfl ?_
          refine wp_skip ?_
          refine hK17.out _ _ ?_
          (try clear hK17 K17)
          refine wk_seq (fun K19 hK19 => ?_)
          refine wp_block ?_
          refine wk_seq (fun K20 hK20 => ?_)
          refine wk_reg ?_
          iterate 10 (refine pl_take (v := ?_) rfl ?_ ?_; rotate_left; (· (first | ((with_reducible apply yl_load); assumption; rfl; (repeat (first | with_reducible assumption | ((with_reducible apply Cl.own); exact rfl) | ((with_reducible apply Cl.blkL); exact rfl) | with_reducible apply Cl.cons)); rfl) | (go_simp; first | done | with_reducible rfl | rfl | omega | assumption | (simp; omega)))); (try simp only [Act.put, aP, aZ, aS]))
          refine pl_done ?_
          refine hK20.out _ _ ?_
          (try clear hK20 K20)
          refine wk_seq (fun K21 hK21 => ?_)
          refine wk_reg ?_
          iterate 10 (refine pl_take (v := ?_) rfl ?_ ?_; rotate_left; (· (first | ((with_reducible apply yl_load); assumption; rfl; (repeat (first | with_reducible assumption | ((with_reducible apply Cl.own); exact rfl) | ((with_reducible apply Cl.blkL); exact rfl) | with_reducible apply Cl.cons)); rfl) | (go_simp; first | done | with_reducible rfl | rfl | omega | assumption | (simp; omega)))); (try simp only [Act.put, aP, aZ, aS]))
          refine pl_done ?_
          refine hK21.out _ _ ?_
          (try clear hK21 K21)
          refine wk_seq (fun K22 hK22 => ?_)
          refine wk_reg ?_
          refine pl_take (v := ?_) rfl ?_ ?_
          rotate_left
          · (go_simp; first | done | with_reducible rfl | rfl | omega | assumption | (simp; omega))
          (try simp only [Act.put, aP, aZ, aS])
          refine pl_eff rfl (fun Kp hKp => ?_)
          go_simp
          (refine (hNx _ _ ((by assumption : Sat w0 _ _).pick (.cons (by (repeat (first | with_reducible exact Out.here _ | apply Out.there))) (.tail _)))).mono ?_; rintro e88 w88 ⟨rfl, hs88⟩)
          (try go_wp2_with fail)
          refine hKp.out _ _ ?_
          clear hKp Kp
          (try simp only [Act.put, aP, aZ, aS])
          refine pl_take (v := ?_) rfl ?_ ?_
          rotate_left
          · (go_simp; first | done | with_reducible rfl | rfl | omega | assumption | (simp; omega))
          (try simp only [Act.put, aP, aZ, aS])
          refine pl_done ?_
          refine hK22.out _ _ ?_
          (try clear hK22 K22)
          refine wk_seq (fun K23 hK23 => ?_)
          refine wk_reg ?_
          iterate 10 (refine pl_take (v := ?_) rfl ?_ ?_; rotate_left; (· (first | ((with_reducible apply yl_load); assumption; rfl; (repeat (first | with_reducible assumption | ((with_reducible apply Cl.own); exact rfl) | ((with_reducible apply Cl.blkL); exact rfl) | with_reducible apply Cl.cons)); rfl) | (go_simp; first | done | with_reducible rfl | rfl | omega | assumption | (simp; omega)))); (try simp only [Act.put, aP, aZ, aS]))
          refine pl_eff rfl (fun Kp hKp => ?_)
          go_simp
          (refine (hPt _ _ (by assumption)).mono ?_; rintro e100 w100 ⟨B100, c100, rfl, hs100⟩)
          (try go_wp2_with fail)
          refine hKp.out _ _ ?_
          clear hKp Kp
          (try simp only [Act.put, aP, aZ, aS])
          refine pl_eff rfl (fun Kp hKp => ?_)
          go_simp
          (refine (hA _ _ _ _ ((by assumption : Sat w0 _ _).pick (.cons (by (repeat (first | with_reducible exact Out.here _ | apply Out.there))) (.tail _))) (by (repeat (first | with_reducible assumption | with_reducible exact Rd.own | with_reducible exact Rd.nil | with_reducible apply Rd.cons)))).mono ?_; rintro e101 w101 ⟨rfl, hs101⟩)
          (try go_wp2_with fail)
          refine hKp.out _ _ ?_
          clear hKp Kp
          (try simp only [Act.put, aP, aZ, aS])
          iterate 3 (refine pl_take (v := ?_) rfl ?_ ?_; rotate_left; (· (go_simp; first | done | with_reducible rfl | rfl | omega | assumption | (simp; omega))); (try simp only [Act.put, aP, aZ, aS]))
          refine pl_eff rfl (fun Kp hKp => ?_)
          ((with_reducible apply st_alloc); assumption; intro b14 w14 hs14; simp only [Value.cells] at hs14)
          refine hKp.out _ _ ?_
          clear hKp Kp
          (try simp only [Act.put, aP, aZ, aS])
          refine pl_eff rfl (fun Kp hKp => ?_)
          (first | ((with_reducible apply st_storeAll); assumption; rfl; (go_simp; rfl); (repeat (first | with_reducible exact Out.here _ | apply Out.there)); rfl; (focus (first | (simp [Value.oneCell']; done) | (simp [Value.cells, Value.oneCell']; done))); rfl; intro wr18_16 hsr18_16; simp only [Value.cells] at hsr18_16) | ((with_reducible apply st_store); assumption; rfl; (go_simp; rfl); (repeat (first | with_reducible exact Out.here _ | apply Out.there)); rfl; (first | (focus (simp [Value.oneCell']; done)) | (simp [Value.cells, Value.oneCell'])); (first | (focus (simp; done)) | (simp [Value.cells])); intro wr18_16 hsr18_16; simp only [upd, Value.cells] at hsr18_16))
          refine hKp.out _ _ ?_
          clear hKp Kp
          (try dsimp only [Act.put])
          refine pl_take (v := ?_) rfl ?_ ?_
          rotate_left
          · (go_simp; first | done | with_reducible rfl | rfl | omega | assumption | (simp; omega))
          (try simp only [Act.put, aP, aZ, aS])
          refine pl_done ?_
          refine hK23.out _ _ ?_
          (try clear hK23 K23)
          refine wk_seq (fun K24 hK24 => ?_)
          refine wk_reg ?_
          iterate 4 (refine pl_take (v := ?_) rfl ?_ ?_; rotate_left; (· (go_simp; first | done | with_reducible rfl | rfl | omega | assumption | (simp; omega))); (try simp only [Act.put, aP, aZ, aS]))
          refine pl_take (v := (.tuple #[.int .i64 0, .bool false])) rfl ?_ ?_
          · ((with_reducible apply yl_lookupV (xk := ((j : Int), q)) ktPair); assumption; rfl; rfl; (repeat (first | with_reducible exact Out.here _ | apply Out.there)); exact hkq; (simp only [if_true]; rw [Hmg.out]; rfl))
          (try simp only [Act.put, aP, aZ, aS])
          iterate 2 (refine pl_take (v := ?_) rfl ?_ ?_; rotate_left; (· (go_simp; first | done | with_reducible rfl | rfl | omega | assumption | (simp; omega))); (try simp only [Act.put, aP, aZ, aS]))
          refine pl_take (v := .bool false) rfl ?_ ?_
          · (go_simp; first | done | with_reducible rfl | rfl | omega | assumption | (simp; omega))
          (try simp only [Act.put, aP, aZ, aS])
          refine pl_take (v := ?_) rfl ?_ ?_
          rotate_left
          · (go_simp; first | done | with_reducible rfl | rfl | omega | assumption | (simp; omega))
          (try simp only [Act.put, aP, aZ, aS])
          refine pl_take (v := .bool false) rfl ?_ ?_
          · (go_simp; first | done | with_reducible rfl | rfl | omega | assumption | (simp; omega))
          (try simp only [Act.put, aP, aZ, aS])
          refine pl_done ?_
          refine hK24.out _ _ ?_
          (try clear hK24 K24)
          refine wk_seq (fun K25 hK25 => ?_)
          refine wk_seq (fun K26 hK26 => ?_)
          refine wk_reg ?_
          refine pl_take (v := ?_) rfl ?_ ?_
          rotate_left
          · (go_simp; first | done | with_reducible rfl | rfl | omega | assumption | (simp; omega))
          (try simp only [Act.put, aP, aZ, aS])
          refine pl_eff rfl (fun Kp hKp => ?_)
          go_simp
          ((refine (numL_spec _ (by assumption)).mono ?_); rintro e113 w113 ⟨rfl, hs113⟩)
          (try go_wp2_with fail)
          refine hKp.out _ _ ?_
          clear hKp Kp
          (try simp only [Act.put, aP, aZ, aS])
          iterate 2 (refine pl_take (v := .bool false) rfl ?_ ?_; (· (go_simp; first | done | with_reducible rfl | rfl | omega | assumption | (simp; omega))); (try simp only [Act.put, aP, aZ, aS]))
          iterate 2 (refine pl_take (v := ?_) (by kernel_rfl) ?_ ?_; rotate_left; (· (first | ((with_reducible apply yl_load); assumption; rfl; (repeat (first | with_reducible assumption | ((with_reducible apply Cl.own); exact rfl) | ((with_reducible apply Cl.blkL); exact rfl) | with_reducible apply Cl.cons)); rfl) | (go_simp; first | done | with_reducible rfl | rfl | omega | assumption | (simp; omega)))); (try simp only [Act.put, aP, aZ, aS]))
          refine pl_eff (by kernel_rfl) (fun Kp hKp => ?_)
          go_simp
          ((refine (numL_spec _ (by assumption)).mono ?_); rintro e118 w118 ⟨rfl, hs118⟩)
          (try go_wp2_with fail)
          refine hKp.out _ _ ?_
          clear hKp Kp
          (try simp only [Act.put, aP, aZ, aS])
          iterate 2 (refine pl_take (v := .bool false) (by kernel_rfl) ?_ ?_; (· (go_simp; first | done | with_reducible rfl | rfl | omega | assumption | (simp; omega))); (try simp only [Act.put, aP, aZ, aS]))
          iterate 18 (refine pl_skip (by kernel_rfl) ?_; (try simp only [Act.put, aP, aZ, aS]))
          refine pl_take (v := .bool false) (by kernel_rfl) ?_ ?_
          · (go_simp; first | done | with_reducible rfl | rfl | omega | assumption | (simp; omega))
          (try simp only [Act.put, aP, aZ, aS])
          refine pl_take (v := .bool false) rfl ?_ ?_
          · (go_simp; first | done | with_reducible rfl | rfl | omega | assumption | (simp; omega))
          (try simp only [Act.put, aP, aZ, aS])
          refine pl_done ?_
          refine hK26.out _ _ ?_
          (try clear hK26 K26)
          refine wp_cond_false rfl ?_
          refine wp_skip ?_
          refine hK25.out _ _ ?_
          (try clear hK25 K25)
          refine wk_seq (fun K28 hK28 => ?_)
          refine wk_seq (fun K29 hK29 => ?_)
          refine wk_reg ?_
          iterate 2 (refine pl_take (v := ?_) rfl ?_ ?_; rotate_left; (· (first | ((with_reducible apply yl_load); assumption; rfl; (repeat (first | with_reducible assumption | ((with_reducible apply Cl.own); exact rfl) | ((with_reducible apply Cl.blkL); exact rfl) | with_reducible apply Cl.cons)); rfl) | (go_simp; first | done | with_reducible rfl | rfl | omega | assumption | (simp; omega)))); (try simp only [Act.put, aP, aZ, aS]))
          refine pl_eff rfl (fun Kp hKp => ?_)
          go_simp
          ((refine (numL_spec _ (by assumption)).mono ?_); rintro e143 w143 ⟨rfl, hs143⟩)
          (try go_wp2_with fail)
          refine hKp.out _ _ ?_
          clear hKp Kp
          (try simp only [Act.put, aP, aZ, aS])
          refine pl_take (v := .bool false) rfl ?_ ?_
          · (go_simp; first | done | with_reducible rfl | rfl | omega | assumption | (simp; omega))
          (try simp only [Act.put, aP, aZ, aS])
          refine pl_done ?_
          refine hK29.out _ _ ?_
          (try clear hK29 K29)
          refine wp_cond_false rfl ?_
          refine wp_skip ?_
          refine hK28.out _ _ ?_
          (try clear hK28 K28)
          refine wk_seq (fun K30 hK30 => ?_)
          refine wk_seq (fun K31 hK31 => ?_)
          refine wk_reg ?_
          refine pl_take (v := .bool false) rfl ?_ ?_
          · (go_simp; first | done | with_reducible rfl | rfl | omega | assumption | (simp; omega))
          (try simp only [Act.put, aP, aZ, aS])
          refine pl_take (v := ?_) rfl ?_ ?_
          rotate_left
          · (go_simp; first | done | with_reducible rfl | rfl | omega | assumption | (simp; omega))
          (try simp only [Act.put, aP, aZ, aS])
          refine pl_eff rfl (fun Kp hKp => ?_)
          go_simp
          (refine (hNx2 _ _ ((by assumption : Sat w0 _ _).pick (.cons (by (repeat (first | with_reducible exact Out.here _ | apply Out.there))) (.tail _)))).mono ?_; rintro e147 w147 ⟨rfl, hs147⟩)
          (try go_wp2_with fail)
          refine hKp.out _ _ ?_
          clear hKp Kp
          (try simp only [Act.put, aP, aZ, aS])
          refine pl_take (v := ?_) rfl ?_ ?_
          rotate_left
          · (go_simp; first | done | with_reducible rfl | rfl | omega | assumption | (simp; omega))
          (try simp only [Act.put, aP, aZ, aS])
          iterate 3 (refine pl_take (v := .bool false) rfl ?_ ?_; (· (go_simp; first | done | with_reducible rfl | rfl | omega | assumption | (simp; omega))); (try simp only [Act.put, aP, aZ, aS]))
          iterate 2 (refine pl_take (v := .bool false) (by kernel_rfl) ?_ ?_; (· (go_simp; first | done | with_reducible rfl | rfl | omega | assumption | (simp; omega))); (try simp only [Act.put, aP, aZ, aS]))
          iterate 4 (refine pl_skip (by kernel_rfl) ?_; (try simp only [Act.put, aP, aZ, aS]))
          refine pl_take (v := .bool false) (by kernel_rfl) ?_ ?_
          · (go_simp; first | done | with_reducible rfl | rfl | omega | assumption | (simp; omega))
          (try simp only [Act.put, aP, aZ, aS])
          iterate 2 (refine pl_take (v := .bool false) rfl ?_ ?_; (· (go_simp; first | done | with_reducible rfl | rfl | omega | assumption | (simp; omega))); (try simp only [Act.put, aP, aZ, aS]))
          refine pl_take (v := .bool false) (by kernel_rfl) ?_ ?_
          · (go_simp; first | done | with_reducible rfl | rfl | omega | assumption | (simp; omega))
          (try simp only [Act.put, aP, aZ, aS])
          iterate 2 (refine pl_take (v := .bool true) (by kernel_rfl) ?_ ?_; (· (go_simp; first | done | with_reducible rfl | rfl | omega | assumption | (simp; omega))); (try simp only [Act.put, aP, aZ, aS]))
          iterate 3 (refine pl_take (v := ?_) (by kernel_rfl) ?_ ?_; rotate_left; (· (first | ((with_reducible apply yl_load); assumption; rfl; (repeat (first | with_reducible assumption | ((with_reducible apply Cl.own); exact rfl) | ((with_reducible apply Cl.blkL); exact rfl) | with_reducible apply Cl.cons)); rfl) | (go_simp; first | done | with_reducible rfl | rfl | omega | assumption | (simp; omega)))); (try simp only [Act.put, aP, aZ, aS]))
          iterate 2 (refine pl_take (v := .bool false) (by kernel_rfl) ?_ ?_; (· (go_simp; first | done | with_reducible rfl | rfl | omega | assumption | (simp; omega))); (try simp only [Act.put, aP, aZ, aS]))
          refine pl_take (v := .bool false) rfl ?_ ?_
          · (go_simp; first | done | with_reducible rfl | rfl | omega | assumption | (simp; omega))
          (try simp only [Act.put, aP, aZ, aS])
          refine pl_done ?_
          refine hK31.out _ _ ?_
          (try clear hK31 K31)
          refine wp_cond_false rfl ?_
          refine wp_skip ?_
          refine hK30.out _ _ ?_
          (try clear hK30 K30)
          refine wk_seq (fun K33 hK33 => ?_)
          refine wk_reg ?_
          iterate 6 (refine pl_take (v := ?_) rfl ?_ ?_; rotate_left; (· (first | ((with_reducible apply yl_load); assumption; rfl; (repeat (first | with_reducible assumption | ((with_reducible apply Cl.own); exact rfl) | ((with_reducible apply Cl.blkL); exact rfl) | with_reducible apply Cl.cons)); rfl) | (go_simp; first | done | with_reducible rfl | rfl | omega | assumption | (simp; omega)))); (try simp only [Act.put, aP, aZ, aS]))
          refine pl_eff rfl (fun Kp hKp => ?_)
          ((with_reducible apply st_mapUpdate (xk := ((j : Int), q)) ktPair); assumption; rfl; rfl; (go_simp; rfl); (repeat (first | with_reducible exact Out.here _ | apply Out.there)); exact hkq; intro wr25_6 hsr25_6)
          refine hKp.out _ _ ?_
          clear hKp Kp
          (try dsimp only [Act.put])
          refine pl_done ?_
          refine hK33.out _ _ ?_
          (try clear hK33 K33)
          refine wk_reg ?_
          iterate 4 (refine pl_take (v := ?_) rfl ?_ ?_; rotate_left; (· (go_simp; first | done | with_reducible rfl | rfl | omega | assumption | (simp; omega))); (try simp only [Act.put, aP, aZ, aS]))
          refine pl_eff rfl (fun Kp hKp => ?_)
          ((with_reducible apply st_store_own); assumption; rfl; (go_simp; rfl); (repeat (first | with_reducible exact Out.here _ | apply Out.there)); rfl; rfl; omega; intro wr26_4 hsr26_4)
          refine hKp.out _ _ ?_
          clear hKp Kp
          (try dsimp only [Act.put])
          refine pl_done ?_
          refine hK19.out _ _ ?_
          (try clear hK19 K19)
          refine wk_reg ?_
          iterate 3 (refine pl_take (v := ?_) rfl ?_ ?_; rotate_left; (· (go_simp; first | done | with_reducible rfl | rfl | omega | assumption | (simp; omega))); (try simp only [Act.put, aP, aZ, aS]))
          refine pl_done ?_
          (try dsimp only [Exit.inBlock, Exit.then])
          refine (by assumption : ∀ a' w', Handed _ _ a' w' → _) _ _ ?_
          go_roundg (gk - 1)
          case rel => exact ⟨k + 1, M', _, _, by go_num, by omega, by omega, by omega, Hon', by rw [← HlaE.out]; exact (by assumption : Sat w0 _ _).pick (by (repeat (first | exact Pick.nil _ | exact Pick.tail _ | exact Out.here _ | apply Out.there | apply Pick.cons | apply Pick.drop)))⟩
          case measure => omega
      · have i1 : (k : Int) < (xs.length : Int) := by omega
        have i2 : ¬ (k : Int) < 200 := by omega
        have Hln := Hid.mk' Hon.out.len
        clear hMok hel
        refine wk_seq (fun K17 hK17 => ?_)
        refine wk_seq (fun K18 hK18 => ?_)
        refine wk_reg ?_
        iterate 3 (refine pl_take (v := ?_) rfl ?_ ?_; rotate_left; (· (go_simp; first | done | with_reducible rfl | rfl | omega | assumption | (simp; omega))); (try simp only [Act.put, aP, aZ, aS]))
        iterate 2 (refine pl_take (v := .bool true) rfl ?_ ?_; (· (go_simp; first | done | with_reducible rfl | rfl | omega | assumption | (simp; omega))); (try simp only [Act.put, aP, aZ, aS]))
        refine pl_take (v := ?_) (by kernel_rfl) ?_ ?_
        rotate_left
        · (go_simp; first | done | with_reducible rfl | rfl | omega | assumption | (simp; omega))
        (try simp only [Act.put, aP, aZ, aS])
        refine pl_take (v := .bool false) (by kernel_rfl) ?_ ?_
        · (go_simp; first | done | with_reducible rfl | rfl | omega | assumption | (simp; omega))
        (try simp only [Act.put, aP, aZ, aS])
        refine pl_take (v := .bool false) rfl ?_ ?_
        · (go_simp; first | done | with_reducible rfl | rfl | omega | assumption | (simp; omega))
        (try simp only [Act.put, aP, aZ, aS])
        refine pl_done ?_
        refine hK18.out _ _ ?_
        (try clear hK18 K18)
        refine wp_cond_false rfl ?_
        refine wp_exit ?_
        refine hK15.out _ _ ?_
        (try clear hK15 K15)
        refine wk_seq (fun K34 hK34 => ?_)
        refine wk_reg ?_
        refine pl_take (v := ?_) rfl ?_ ?_
        rotate_left
        · (go_simp; first | done | with_reducible rfl | rfl | omega | assumption | (simp; omega))
        (try simp only [Act.put, aP, aZ, aS])
        refine pl_eff rfl (fun Kp hKp => ?_)
        go_simp
        (refine (hNx _ _ ((by assumption : Sat w0 _ _).pick (.cons (by (repeat (first | with_reducible exact Out.here _ | apply Out.there))) (.tail _)))).mono ?_; rintro e181 w181 ⟨rfl, hs181⟩)
        (try go_wp2_with fail)
        refine hKp.out _ _ ?_
        clear hKp Kp
        (try simp only [Act.put, aP, aZ, aS])
        refine pl_take (v := ?_) rfl ?_ ?_
        rotate_left
        · (go_simp; first | done | with_reducible rfl | rfl | omega | assumption | (simp; omega))
        (try simp only [Act.put, aP, aZ, aS])
        refine pl_take (v := (.int .i64 M.l.length)) rfl ?_ ?_
        · ((with_reducible apply yl_maplenV (κ := Int × Int)); assumption; rfl; (repeat (first | with_reducible exact Out.here _ | apply Out.there)); rw [Hln.out])
        (try simp only [Act.put, aP, aZ, aS])
        iterate 2 (refine pl_take (v := .bool true) rfl ?_ ?_; (· (go_simp; first | done | with_reducible rfl | rfl | omega | assumption | (simp; omega))); (try simp only [Act.put, aP, aZ, aS]))
        refine pl_done ?_
        refine hK34.out _ _ ?_
        (try clear hK34 K34)
        refine wp_ret ?_
        go_ret
        exact ⟨rfl, (by assumption : Sat w0 _ _).pick (by (repeat (first | exact Pick.nil _ | exact Pick.tail _ | exact Out.here _ | apply Out.there | apply Pick.cons | apply Pick.drop)))⟩
    · have i1 : ¬ (k : Int) < (xs.length : Int) := by omega
      have Hln := Hid.mk' Hon.out.len
      clear hMok hel
      refine wk_seq (fun K17 hK17 => ?_)
      refine wk_seq (fun K18 hK18 => ?_)
      refine wk_reg ?_
      iterate 3 (refine pl_take (v := ?_) rfl ?_ ?_; rotate_left; (· (go_simp; first | done | with_reducible rfl | rfl | omega | assumption | (simp; omega))); (try simp only [Act.put, aP, aZ, aS]))
      iterate 2 (refine pl_take (v := .bool false) rfl ?_ ?_; (· (go_simp; first | done | with_reducible rfl | rfl | omega | assumption | (simp; omega))); (try simp only [Act.put, aP, aZ, aS]))
      iterate 2 (refine pl_skip (by kernel_rfl) ?_; (try simp only [Act.put, aP, aZ, aS]))
      refine pl_take (v := .bool false) rfl ?_ ?_
      · (go_simp; first | done | with_reducible rfl | rfl | omega | assumption | (simp; omega))
      (try simp only [Act.put, aP, aZ, aS])
      refine pl_done ?_
      refine hK18.out _ _ ?_
      (try clear hK18 K18)
      refine wp_cond_false rfl ?_
      refine wp_exit ?_
      refine hK15.out _ _ ?_
      (try clear hK15 K15)
      refine wk_seq (fun K34 hK34 => ?_)
      refine wk_reg ?_
      refine pl_take (v := ?_) rfl ?_ ?_
      rotate_left
      · (go_simp; first | done | with_reducible rfl | rfl | omega | assumption | (simp; omega))
      (try simp only [Act.put, aP, aZ, aS])
      refine pl_eff rfl (fun Kp hKp => ?_)
      go_simp
      (refine (hNx _ _ ((by assumption : Sat w0 _ _).pick (.cons (by (repeat (first | with_reducible exact Out.here _ | apply Out.there))) (.tail _)))).mono ?_; rintro e181 w181 ⟨rfl, hs181⟩)
      (try go_wp2_with fail)
      refine hKp.out _ _ ?_
      clear hKp Kp
      (try simp only [Act.put, aP, aZ, aS])
      refine pl_take (v := ?_) rfl ?_ ?_
      rotate_left
      · (go_simp; first | done | with_reducible rfl | rfl | omega | assumption | (simp; omega))
      (try simp only [Act.put, aP, aZ, aS])
      refine pl_take (v := (.int .i64 M.l.length)) rfl ?_ ?_
      · ((with_reducible apply yl_maplenV (κ := Int × Int)); assumption; rfl; (repeat (first | with_reducible exact Out.here _ | apply Out.there)); rw [Hln.out])
      (try simp only [Act.put, aP, aZ, aS])
      iterate 2 (refine pl_take (v := .bool true) rfl ?_ ?_; (· (go_simp; first | done | with_reducible rfl | rfl | omega | assumption | (simp; omega))); (try simp only [Act.put, aP, aZ, aS]))
      refine pl_done ?_
      refine hK34.out _ _ ?_
      (try clear hK34 K34)
      refine wp_ret ?_
      go_ret
      exact ⟨rfl, (by assumption : Sat w0 _ _).pick (by (repeat (first | exact Pick.nil _ | exact Pick.tail _ | exact Out.here _ | apply Out.there | apply Pick.cons | apply Pick.drop)))⟩
end Go.Proofs.Ytdlimjcidblneaa
