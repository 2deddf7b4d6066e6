/-
  The machine: what stays right; what the laws know.
-/
import Derived.Test.YtdlimjcidblneaaMc7
namespace Go.Proofs.Ytdlimjcidblneaa
open Go Go.RowKit Sl Go.Shelf
set_option maxHeartbeats 20000000
set_option maxRecDepth 8000

theorem setSe_ids {M : Mc} {id : Int} {s : Se} {p : Int → Prop} (h : ∀ x ∈ M.ss, p x.1) : ∀ x ∈ (M.setSe id s).ss, p x.1 := by
  intro x hx
  unfold Mc.setSe at hx
  obtain ⟨y, hy, rfl⟩ := List.mem_map.1 hx
  have := h y hy
  split
  · rename_i e; rw [e] at this; exact this
  · exact this

theorem put_ok {M : Mc} {id q : Int} {d : List UInt8} (h1 : 1 ≤ M.sp ∧ M.sp ≤ 1099511627776) (h2 : 0 ≤ M.ap ∧ M.ap < 1099511627776) (h3 : 0 ≤ M.st) (h4 : M.st + M.l.length + 1 ≤ M.ap + 1099511627776) (h5 : ∀ x ∈ M.ss, 0 < x.1 ∧ x.1 ≤ M.ap) :
    (M.put id q d).2.Ok ∧ (M.put id q d).2.l.length ≤ M.l.length + 1 := by
  have h0 : M.Ok := ⟨h1, h2, h3, by omega, h5⟩
  unfold Mc.put
  cases M.seAt id with
  | none => exact ⟨h0, by simp⟩
  | some s =>
    simp only
    split
    · exact ⟨⟨h1, h2, h3, h0.len, setSe_ids (p := fun i => 0 < i ∧ i ≤ M.ap) h5⟩, by simp [Mc.setSe]⟩
    · split
      · exact ⟨⟨h1, h2, h3, by simp only [Mc.setSe, List.length_append, List.length_cons, List.length_nil]; omega, setSe_ids (p := fun i => 0 < i ∧ i ≤ M.ap) h5⟩, by simp⟩
      · exact ⟨⟨h1, h2, h3, h0.len, setSe_ids (p := fun i => 0 < i ∧ i ≤ M.ap) h5⟩, by simp [Mc.setSe]⟩

theorem apply_ok {M : Mc} {ix : Int} {b : List UInt8} (h : M.Ok) : (M.apply ix b).2.Ok ∧ (M.apply ix b).2.l.length ≤ M.l.length + 1 := by
  unfold Mc.apply
  split
  · exact ⟨h, by simp⟩
  · split
    · exact ⟨h, by simp⟩
    · rename_i g1 g2
      have e1 : 0 ≤ (M.expire ix).ap ∧ (M.expire ix).ap < 1099511627776 := by have := h.ap; simp only [Mc.expire]; omega
      have e2 : (M.expire ix).st + (M.expire ix).l.length + 1 ≤ (M.expire ix).ap + 1099511627776 := by have := h.len; simp only [Mc.expire]; omega
      have e3 : ∀ x ∈ (M.expire ix).ss, 0 < x.1 ∧ x.1 ≤ (M.expire ix).ap := fun x hx => by
        have := h.ids x (List.mem_filter.1 hx).1
        simp only [Mc.expire]; omega
      have hl : (M.expire ix).l.length = M.l.length := rfl
      obtain ⟨M1, hM1⟩ : ∃ M1, M.expire ix = M1 := ⟨_, rfl⟩
      have hap : M1.ap = ix := by rw [← hM1]; rfl
      have hsp : 1 ≤ M1.sp ∧ M1.sp ≤ 1099511627776 := by rw [← hM1]; exact h.sp
      have hst : 0 ≤ M1.st := by rw [← hM1]; exact h.st
      rw [hM1] at e1 e2 e3 hl ⊢
      have h0 : M1.Ok := ⟨hsp, e1, hst, by omega, e3⟩
      unfold Mc.does
      split
      · split
        · exact ⟨h0, by simp only; omega⟩
        · refine ⟨⟨hsp, e1, hst, by simp only [Mc.opened]; omega, fun x hx => ?_⟩, by simp only [Mc.opened]; omega⟩
          simp only [Mc.opened, List.mem_append, List.mem_singleton] at hx
          rcases hx with hx | rfl
          · exact e3 x hx
          · simp only [Mc.opened]; have := h.ap; omega
      · split
        · have := put_ok (id := (cmd b).x) (q := (cmd b).y) (d := (cmd b).d) hsp e1 hst e2 e3
          exact ⟨this.1, by have := this.2; simp only; omega⟩
        · split
          · have ht : M1.st ≤ M1.trimTo (cmd b).x ∧ M1.trimTo (cmd b).x ≤ M1.st + M1.l.length := by unfold Mc.trimTo; omega
            refine ⟨⟨hsp, e1, by simp only [Mc.trim]; omega, by simp only [Mc.trim, List.length_drop]; omega, e3⟩, by simp only [Mc.trim, List.length_drop]; omega⟩
          · exact ⟨h0, by simp only; omega⟩

theorem nextMR_spec {w0 w : World} {L : List HP} {p : Nat} {M : Mc} (h : M.Ok) (hs : Sat w0 w (MR p M :: L)) :
    Calls Try.prog 16 #[.pointer (some ⟨p, 0, none⟩)] w (fun e w' => e = .returned (.int .i64 (M.st + M.l.length)) ∧ Sat w0 w' (MR p M :: L)) := by
  obtain ⟨X, cx, bm, ys, bs, hys, hbs, hs1⟩ := MR.opened hs
  have h1 := h.len
  have h2 := h.ap
  refine (nextM_spec (n := M.l.length) (b := bm) (cx := cx) (X := X) h.st (by omega) hs1 (by (repeat (first | with_reducible assumption | ((with_reducible apply Cl.own); exact rfl) | ((with_reducible apply Cl.blkL); exact rfl) | with_reducible apply Cl.cons))) (by (repeat (first | with_reducible assumption | ((with_reducible apply Cl.own); exact rfl) | ((with_reducible apply Cl.blkL); exact rfl) | with_reducible apply Cl.cons))) (by (repeat (first | with_reducible assumption | ((with_reducible apply Cl.own); exact rfl) | ((with_reducible apply Cl.blkL); exact rfl) | with_reducible apply Cl.cons)))).mono ?_
  rintro e w' ⟨rfl, hs2⟩
  exact ⟨rfl, MR.made hys hbs hs2⟩

theorem numL_spec {w0 w : World} {L : List HP} (n : Int) (hs : Sat w0 w L) : Calls Try.prog 12 #[.int .i64 n] w (fun e w' => e = .returned (.int .i64 n) ∧ Sat w0 w' L) := by
  go_enter Try.func12, Try.ntmps12
  refine wk_seq (fun K0 hK0 => ?_)
  refine wk_reg ?_
  refine pl_take (v := ?_) rfl ?_ ?_
  rotate_left
  · (go_simp; first | done | with_reducible rfl | rfl | omega | assumption | (simp; omega))
  (try simp only [Act.put, aP, aZ, aS])
  refine pl_done ?_
  refine hK0.out _ _ ?_
  (try clear hK0 K0)
  refine wk_seq (fun K1 hK1 => ?_)
  refine wk_reg ?_
  iterate 2 (refine pl_take (v := ?_) rfl ?_ ?_; rotate_left; (· (go_simp; first | done | with_reducible rfl | rfl | omega | assumption | (simp; omega))); (try simp only [Act.put, aP, aZ, aS]))
  refine pl_done ?_
  refine hK1.out _ _ ?_
  (try clear hK1 K1)
  refine wp_ret ?_
  go_ret
  exact ⟨rfl, (by assumption : Sat w0 _ _).pick (by (repeat (first | exact Pick.nil _ | exact Pick.tail _ | exact Out.here _ | apply Out.there | apply Pick.cons | apply Pick.drop)))⟩


theorem cPut_len (s q : Int) (d : List UInt8) (hs : s < 281474976710656) (hq : q < 281474976710656) (hd : d.length ≤ 1048576) : (cPut s q d).length ≤ d.length + 64 := by
  have h1 := num_len 2 (by omega)
  have h2 := num_len s.toNat (by omega)
  have h3 := num_len q.toNat (by omega)
  have h4 := num_len d.length (by omega)
  simp only [cPut, List.length_append]; omega

theorem lput_spec {w0 w : World} {L : List HP} (s q : Int) (c : UInt8) (v : Int) (hv : b8 c = .int .u8 v) (hs : Sat w0 w L) :
    Calls Try.prog 17 #[.int .i64 s, .int .i64 q, .int .u8 v] w (RetS w0 L (putC s q [c]).1) := by
  have hP := fun (w : World) (L' : List HP) (A : Option Addr) (hs : Sat w0 w L') (h : Rd w0 L' A 1 1 (B8 [c])) => putM_spec (c := 1) s q [c] (by simp) hs h
  rw [show B8 [c] = [Value.int .u8 v] from by simp only [B8, List.map_cons, List.map_nil]; rw [← hv]] at hP
  obtain ⟨⟨X, ec⟩, hX⟩ : ∃ z, putC s q [c] = z := ⟨_, rfl⟩
  rw [hX] at hP ⊢
  clear hX
  go_enter Try.func17, Try.ntmps17
  refine wk_seq (fun K0 hK0 => ?_)
  refine wk_reg ?_
  refine pl_take (v := ?_) rfl ?_ ?_
  rotate_left
  · (go_simp; first | done | with_reducible rfl | rfl | omega | assumption | (simp; omega))
  (try simp only [Act.put, aP, aZ, aS])
  refine pl_done ?_
  refine hK0.out _ _ ?_
  (try clear hK0 K0)
  refine wk_seq (fun K1 hK1 => ?_)
  refine wk_reg ?_
  iterate 3 (refine pl_take (v := ?_) rfl ?_ ?_; rotate_left; (· (go_simp; first | done | with_reducible rfl | rfl | omega | assumption | (simp; omega))); (try simp only [Act.put, aP, aZ, aS]))
  refine pl_eff rfl (fun Kp hKp => ?_)
  ((with_reducible apply st_buildSlice); assumption; rfl; (go_simp; rfl); (simp [Value.cells]); omega; intro b13 w13 hs13)
  refine hKp.out _ _ ?_
  clear hKp Kp
  (try simp only [Act.put, aP, aZ, aS])
  refine pl_eff rfl (fun Kp hKp => ?_)
  go_simp
  (refine (hP _ _ _ (by assumption) Rd.own).mono ?_; rintro e14 w14 ⟨B14, c14, rfl, hs14⟩; simp only at hs14 ⊢)
  (try go_wp2_with fail)
  refine hKp.out _ _ ?_
  clear hKp Kp
  (try simp only [Act.put, aP, aZ, aS])
  iterate 5 (refine pl_take (v := ?_) rfl ?_ ?_; rotate_left; (· (go_simp; first | done | with_reducible rfl | rfl | omega | assumption | (simp; omega))); (try simp only [Act.put, aP, aZ, aS]))
  refine pl_done ?_
  refine hK1.out _ _ ?_
  (try clear hK1 K1)
  refine wk_seq (fun K2 hK2 => ?_)
  refine wk_reg ?_
  iterate 2 (refine pl_take (v := ?_) rfl ?_ ?_; rotate_left; (· (go_simp; first | done | with_reducible rfl | rfl | omega | assumption | (simp; omega))); (try simp only [Act.put, aP, aZ, aS]))
  refine pl_done ?_
  refine hK2.out _ _ ?_
  (try clear hK2 K2)
  refine wp_ret ?_
  go_ret
  exact ⟨B14, c14, rfl, (by assumption : Sat w0 _ _).pick (by (repeat (first | exact Pick.nil _ | exact Pick.tail _ | exact Out.here _ | apply Out.there | apply Pick.cons | apply Pick.drop)))⟩

def k1M : Mc := ⟨100, 1, 0, [], [(1, ⟨0, 0, 1⟩)]⟩
def k2M : Mc := ⟨100, 2, 0, [[7]], [(1, ⟨5, 0, 2⟩)]⟩
def k3M : Mc := ⟨100, 3, 0, [[7]], [(1, ⟨5, 0, 3⟩)]⟩
def k4M : Mc := ⟨100, 4, 0, [[7]], [(1, ⟨5, 0, 4⟩)]⟩
theorem cmd_k (q : Int) (h : okNum q = true) : cmd (cPut 1 q [7]) = ⟨2, 1, q, [7]⟩ := cmd_put (by decide) h (by simp)
theorem k1_eq : (Mc.new 100).apply 1 cOpen = (⟨0, 1, 0, 0⟩, k1M) := by unfold Mc.apply; rw [cmd_open]; rfl
theorem k2_eq : k1M.apply 2 (cPut 1 5 [7]) = (⟨0, 0, 0, 0⟩, k2M) := by unfold Mc.apply; rw [cmd_k 5 (by decide)]; rfl
theorem k3_eq : k2M.apply 3 (cPut 1 5 [7]) = (⟨0, 0, 0, 0⟩, k3M) := by unfold Mc.apply; rw [cmd_k 5 (by decide)]; rfl
theorem k4_eq : k3M.apply 4 (cPut 1 4 [7]) = (⟨41, 0, 0, 0⟩, k4M) := by unfold Mc.apply; rw [cmd_k 4 (by decide)]; rfl

theorem k_ok : k1M.Ok ∧ k2M.Ok ∧ k3M.Ok ∧ k4M.Ok := by
  refine ⟨⟨?_, ?_, ?_, ?_, ?_⟩, ⟨?_, ?_, ?_, ?_, ?_⟩, ⟨?_, ?_, ?_, ?_, ?_⟩, ⟨?_, ?_, ?_, ?_, ?_⟩⟩ <;> simp [k1M, k2M, k3M, k4M]


theorem knows08_spec {w0 w : World} {L : List HP} (hs : Sat w0 w L) : Calls Try.prog 13 #[] w (RetB w0 L true) := by
  have hO : cOpen.length ≤ 8 := num_len 1 (by omega)
  have hp5 : (cPut 1 5 [7]).length ≤ 80 := by have := cPut_len 1 5 [7] (by omega) (by omega) (by simp); simp at this; omega
  have hp4 : (cPut 1 4 [7]).length ≤ 80 := by have := cPut_len 1 4 [7] (by omega) (by omega) (by simp); simp at this; omega
  have hA1 := fun (w : World) (L' : List HP) (p : Nat) (A : Option Addr) (c : Nat) (hs : Sat w0 w (MR p (Mc.new 100) :: L')) (h : Rd w0 L' A cOpen.length 1 (B8 cOpen)) => apply_spec (c := c) 1 cOpen (Mc.new_ok (sp := 100) (by omega)) (by simp [Mc.new]) (by omega) hs h
  have hA2 := fun (w : World) (L' : List HP) (p : Nat) (A : Option Addr) (c : Nat) (hs : Sat w0 w (MR p k1M :: L')) (h : Rd w0 L' A (cPut 1 5 [7]).length 1 (B8 (cPut 1 5 [7]))) => apply_spec (c := c) 2 (cPut 1 5 [7]) k_ok.1 (by simp [k1M]) (by omega) hs h
  have hA3 := fun (w : World) (L' : List HP) (p : Nat) (A : Option Addr) (c : Nat) (hs : Sat w0 w (MR p k2M :: L')) (h : Rd w0 L' A (cPut 1 5 [7]).length 1 (B8 (cPut 1 5 [7]))) => apply_spec (c := c) 3 (cPut 1 5 [7]) k_ok.2.1 (by simp [k2M]) (by omega) hs h
  have hA4 := fun (w : World) (L' : List HP) (p : Nat) (A : Option Addr) (c : Nat) (hs : Sat w0 w (MR p k3M :: L')) (h : Rd w0 L' A (cPut 1 4 [7]).length 1 (B8 (cPut 1 4 [7]))) => apply_spec (c := c) 4 (cPut 1 4 [7]) k_ok.2.2.1 (by simp [k3M]) (by omega) hs h
  have hN := fun (w : World) (L' : List HP) (p : Nat) (hs : Sat w0 w (MR p k4M :: L')) => nextMR_spec k_ok.2.2.2 hs
  have hP5 := fun (w : World) (L' : List HP) (hs : Sat w0 w L') => lput_spec 1 5 7 7 rfl hs
  have hP4 := fun (w : World) (L' : List HP) (hs : Sat w0 w L') => lput_spec 1 4 7 7 rfl hs
  rw [show (putC 1 5 [7]).1 = cPut 1 5 [7] from rfl] at hP5
  rw [show (putC 1 4 [7]).1 = cPut 1 4 [7] from rfl] at hP4
  rw [k1_eq] at hA1
  rw [k2_eq] at hA2
  rw [k3_eq] at hA3
  rw [k4_eq] at hA4
  rw [show k4M.st + (k4M.l.length : Int) = 1 from rfl] at hN
  unfold RetTold at hA1 hA2 hA3 hA4
  simp only at hA1 hA2 hA3 hA4
  obtain ⟨c5, hc5⟩ : ∃ z, cPut 1 5 [7] = z := ⟨_, rfl⟩
  obtain ⟨c4, hc4⟩ : ∃ z, cPut 1 4 [7] = z := ⟨_, rfl⟩
  obtain ⟨co, hco⟩ : ∃ z, cOpen = z := ⟨_, rfl⟩
  rw [hc5] at hA2 hA3 hP5
  rw [hc4] at hA4 hP4
  rw [hco] at hA1
  have hOp := fun (w : World) (L' : List HP) (hs : Sat w0 w L') => openM_spec hs
  rw [hco] at hOp
  clear hc5 hc4 hco hO hp5 hp4
  go_enter Try.func13, Try.ntmps13
  refine wk_seq (fun K0 hK0 => ?_)
  refine wk_reg ?_
  refine pl_take (v := .bool false) rfl ?_ ?_
  · (go_simp; first | done | with_reducible rfl | rfl | omega | assumption | (simp; omega))
  (try simp only [Act.put, aP, aZ])
  refine pl_done ?_
  refine hK0.out _ _ ?_
  (try clear hK0 K0)
  refine wk_seq (fun K1 hK1 => ?_)
  refine wk_reg ?_
  refine pl_eff rfl (fun Kp hKp => ?_)
  go_simp
  (refine (newM_spec 100 (by omega) (by assumption)).mono ?_; rintro e12 w12 ⟨p, rfl, hs12⟩)
  (try go_wp2_with fail)
  refine hKp.out _ _ ?_
  clear hKp Kp
  (try simp only [Act.put, aP, aZ, aS])
  iterate 5 (refine pl_take (v := ?_) rfl ?_ ?_; rotate_left; (· (go_simp; first | done | with_reducible rfl | rfl | omega | assumption | (simp; omega))); (try simp only [Act.put, aP, aZ, aS]))
  refine pl_done ?_
  refine hK1.out _ _ ?_
  (try clear hK1 K1)
  refine wk_seq (fun K2 hK2 => ?_)
  refine wk_reg ?_
  refine pl_take (v := ?_) rfl ?_ ?_
  rotate_left
  · (go_simp; first | done | with_reducible rfl | rfl | omega | assumption | (simp; omega))
  (try simp only [Act.put, aP, aZ, aS])
  refine pl_eff rfl (fun Kp hKp => ?_)
  go_simp
  (refine (hOp _ _ (by assumption)).mono ?_; rintro e17 w17 ⟨B17, c17, rfl, hs17⟩)
  (try go_wp2_with fail)
  refine hKp.out _ _ ?_
  clear hKp Kp
  (try simp only [Act.put, aP, aZ, aS])
  refine pl_eff rfl (fun Kp hKp => ?_)
  go_simp
  (refine (hA1 _ _ _ _ _ ((by assumption : Sat w0 _ _).pick (.cons (by (repeat (first | with_reducible exact Out.here _ | apply Out.there))) (.tail _))) (by (repeat (first | with_reducible assumption | with_reducible exact Rd.own | with_reducible exact Rd.nil | with_reducible apply Rd.cons)))).mono ?_; rintro e18 w18 ⟨rfl, hs18⟩)
  (try go_wp2_with fail)
  refine hKp.out _ _ ?_
  clear hKp Kp
  (try simp only [Act.put, aP, aZ, aS])
  iterate 3 (refine pl_take (v := ?_) rfl ?_ ?_; rotate_left; (· (go_simp; first | done | with_reducible rfl | rfl | omega | assumption | (simp; omega))); (try simp only [Act.put, aP, aZ, aS]))
  refine pl_eff rfl (fun Kp hKp => ?_)
  ((with_reducible apply st_alloc); assumption; intro b3 w3 hs3; simp only [Value.cells] at hs3)
  refine hKp.out _ _ ?_
  clear hKp Kp
  (try simp only [Act.put, aP, aZ, aS])
  refine pl_eff rfl (fun Kp hKp => ?_)
  (first | ((with_reducible apply st_storeAll); assumption; rfl; (go_simp; rfl); (repeat (first | with_reducible exact Out.here _ | apply Out.there)); rfl; (focus (first | (simp [Value.oneCell']; done) | (simp [Value.cells, Value.oneCell']; done))); rfl; intro wr2_7 hsr2_7; simp only [Value.cells] at hsr2_7) | ((with_reducible apply st_store); assumption; rfl; (go_simp; rfl); (repeat (first | with_reducible exact Out.here _ | apply Out.there)); rfl; (first | (focus (simp [Value.oneCell']; done)) | (simp [Value.cells, Value.oneCell'])); (first | (focus (simp; done)) | (simp [Value.cells])); intro wr2_7 hsr2_7; simp only [upd, Value.cells] at hsr2_7))
  refine hKp.out _ _ ?_
  clear hKp Kp
  (try dsimp only [Act.put])
  refine pl_take (v := ?_) rfl ?_ ?_
  rotate_left
  · (go_simp; first | done | with_reducible rfl | rfl | omega | assumption | (simp; omega))
  (try simp only [Act.put, aP, aZ, aS])
  refine pl_done ?_
  refine hK2.out _ _ ?_
  (try clear hK2 K2)
  refine wk_seq (fun K3 hK3 => ?_)
  refine wk_reg ?_
  refine pl_take (v := ?_) rfl ?_ ?_
  rotate_left
  · (go_simp; first | done | with_reducible rfl | rfl | omega | assumption | (simp; omega))
  (try simp only [Act.put, aP, aZ, aS])
  refine pl_eff rfl (fun Kp hKp => ?_)
  go_simp
  (refine (hP5 _ _ (by assumption)).mono ?_; rintro e23 w23 ⟨B23, c23, rfl, hs23⟩)
  (try go_wp2_with fail)
  refine hKp.out _ _ ?_
  clear hKp Kp
  (try simp only [Act.put, aP, aZ, aS])
  refine pl_eff rfl (fun Kp hKp => ?_)
  go_simp
  (refine (hA2 _ _ _ _ _ ((by assumption : Sat w0 _ _).pick (.cons (by (repeat (first | with_reducible exact Out.here _ | apply Out.there))) (.tail _))) (by (repeat (first | with_reducible assumption | with_reducible exact Rd.own | with_reducible exact Rd.nil | with_reducible apply Rd.cons)))).mono ?_; rintro e24 w24 ⟨rfl, hs24⟩)
  (try go_wp2_with fail)
  refine hKp.out _ _ ?_
  clear hKp Kp
  (try simp only [Act.put, aP, aZ, aS])
  iterate 3 (refine pl_take (v := ?_) rfl ?_ ?_; rotate_left; (· (go_simp; first | done | with_reducible rfl | rfl | omega | assumption | (simp; omega))); (try simp only [Act.put, aP, aZ, aS]))
  refine pl_eff rfl (fun Kp hKp => ?_)
  ((with_reducible apply st_alloc); assumption; intro b5 w5 hs5; simp only [Value.cells] at hs5)
  refine hKp.out _ _ ?_
  clear hKp Kp
  (try simp only [Act.put, aP, aZ, aS])
  refine pl_eff rfl (fun Kp hKp => ?_)
  (first | ((with_reducible apply st_storeAll); assumption; rfl; (go_simp; rfl); (repeat (first | with_reducible exact Out.here _ | apply Out.there)); rfl; (focus (first | (simp [Value.oneCell']; done) | (simp [Value.cells, Value.oneCell']; done))); rfl; intro wr3_7 hsr3_7; simp only [Value.cells] at hsr3_7) | ((with_reducible apply st_store); assumption; rfl; (go_simp; rfl); (repeat (first | with_reducible exact Out.here _ | apply Out.there)); rfl; (first | (focus (simp [Value.oneCell']; done)) | (simp [Value.cells, Value.oneCell'])); (first | (focus (simp; done)) | (simp [Value.cells])); intro wr3_7 hsr3_7; simp only [upd, Value.cells] at hsr3_7))
  refine hKp.out _ _ ?_
  clear hKp Kp
  (try dsimp only [Act.put])
  refine pl_take (v := ?_) rfl ?_ ?_
  rotate_left
  · (go_simp; first | done | with_reducible rfl | rfl | omega | assumption | (simp; omega))
  (try simp only [Act.put, aP, aZ, aS])
  refine pl_done ?_
  refine hK3.out _ _ ?_
  (try clear hK3 K3)
  refine wk_seq (fun K4 hK4 => ?_)
  refine wk_reg ?_
  refine pl_take (v := ?_) rfl ?_ ?_
  rotate_left
  · (go_simp; first | done | with_reducible rfl | rfl | omega | assumption | (simp; omega))
  (try simp only [Act.put, aP, aZ, aS])
  refine pl_eff rfl (fun Kp hKp => ?_)
  go_simp
  (refine (hP5 _ _ (by assumption)).mono ?_; rintro e29 w29 ⟨B29, c29, rfl, hs29⟩)
  (try go_wp2_with fail)
  refine hKp.out _ _ ?_
  clear hKp Kp
  (try simp only [Act.put, aP, aZ, aS])
  refine pl_eff rfl (fun Kp hKp => ?_)
  go_simp
  (refine (hA3 _ _ _ _ _ ((by assumption : Sat w0 _ _).pick (.cons (by (repeat (first | with_reducible exact Out.here _ | apply Out.there))) (.tail _))) (by (repeat (first | with_reducible assumption | with_reducible exact Rd.own | with_reducible exact Rd.nil | with_reducible apply Rd.cons)))).mono ?_; rintro e30 w30 ⟨rfl, hs30⟩)
  (try go_wp2_with fail)
  refine hKp.out _ _ ?_
  clear hKp Kp
  (try simp only [Act.put, aP, aZ, aS])
  iterate 3 (refine pl_take (v := ?_) rfl ?_ ?_; rotate_left; (· (go_simp; first | done | with_reducible rfl | rfl | omega | assumption | (simp; omega))); (try simp only [Act.put, aP, aZ, aS]))
  refine pl_eff rfl (fun Kp hKp => ?_)
  ((with_reducible apply st_alloc); assumption; intro b7 w7 hs7; simp only [Value.cells] at hs7)
  refine hKp.out _ _ ?_
  clear hKp Kp
  (try simp only [Act.put, aP, aZ, aS])
  refine pl_eff rfl (fun Kp hKp => ?_)
  (first | ((with_reducible apply st_storeAll); assumption; rfl; (go_simp; rfl); (repeat (first | with_reducible exact Out.here _ | apply Out.there)); rfl; (focus (first | (simp [Value.oneCell']; done) | (simp [Value.cells, Value.oneCell']; done))); rfl; intro wr4_7 hsr4_7; simp only [Value.cells] at hsr4_7) | ((with_reducible apply st_store); assumption; rfl; (go_simp; rfl); (repeat (first | with_reducible exact Out.here _ | apply Out.there)); rfl; (first | (focus (simp [Value.oneCell']; done)) | (simp [Value.cells, Value.oneCell'])); (first | (focus (simp; done)) | (simp [Value.cells])); intro wr4_7 hsr4_7; simp only [upd, Value.cells] at hsr4_7))
  refine hKp.out _ _ ?_
  clear hKp Kp
  (try dsimp only [Act.put])
  refine pl_take (v := ?_) rfl ?_ ?_
  rotate_left
  · (go_simp; first | done | with_reducible rfl | rfl | omega | assumption | (simp; omega))
  (try simp only [Act.put, aP, aZ, aS])
  refine pl_done ?_
  refine hK4.out _ _ ?_
  (try clear hK4 K4)
  refine wk_seq (fun K5 hK5 => ?_)
  refine wk_reg ?_
  refine pl_take (v := ?_) rfl ?_ ?_
  rotate_left
  · (go_simp; first | done | with_reducible rfl | rfl | omega | assumption | (simp; omega))
  (try simp only [Act.put, aP, aZ, aS])
  refine pl_eff rfl (fun Kp hKp => ?_)
  go_simp
  (refine (hP4 _ _ (by assumption)).mono ?_; rintro e35 w35 ⟨B35, c35, rfl, hs35⟩)
  (try go_wp2_with fail)
  refine hKp.out _ _ ?_
  clear hKp Kp
  (try simp only [Act.put, aP, aZ, aS])
  refine pl_eff rfl (fun Kp hKp => ?_)
  go_simp
  (refine (hA4 _ _ _ _ _ ((by assumption : Sat w0 _ _).pick (.cons (by (repeat (first | with_reducible exact Out.here _ | apply Out.there))) (.tail _))) (by (repeat (first | with_reducible assumption | with_reducible exact Rd.own | with_reducible exact Rd.nil | with_reducible apply Rd.cons)))).mono ?_; rintro e36 w36 ⟨rfl, hs36⟩)
  (try go_wp2_with fail)
  refine hKp.out _ _ ?_
  clear hKp Kp
  (try simp only [Act.put, aP, aZ, aS])
  iterate 3 (refine pl_take (v := ?_) rfl ?_ ?_; rotate_left; (· (go_simp; first | done | with_reducible rfl | rfl | omega | assumption | (simp; omega))); (try simp only [Act.put, aP, aZ, aS]))
  refine pl_eff rfl (fun Kp hKp => ?_)
  ((with_reducible apply st_alloc); assumption; intro b9 w9 hs9; simp only [Value.cells] at hs9)
  refine hKp.out _ _ ?_
  clear hKp Kp
  (try simp only [Act.put, aP, aZ, aS])
  refine pl_eff rfl (fun Kp hKp => ?_)
  (first | ((with_reducible apply st_storeAll); assumption; rfl; (go_simp; rfl); (repeat (first | with_reducible exact Out.here _ | apply Out.there)); rfl; (focus (first | (simp [Value.oneCell']; done) | (simp [Value.cells, Value.oneCell']; done))); rfl; intro wr5_7 hsr5_7; simp only [Value.cells] at hsr5_7) | ((with_reducible apply st_store); assumption; rfl; (go_simp; rfl); (repeat (first | with_reducible exact Out.here _ | apply Out.there)); rfl; (first | (focus (simp [Value.oneCell']; done)) | (simp [Value.cells, Value.oneCell'])); (first | (focus (simp; done)) | (simp [Value.cells])); intro wr5_7 hsr5_7; simp only [upd, Value.cells] at hsr5_7))
  refine hKp.out _ _ ?_
  clear hKp Kp
  (try dsimp only [Act.put])
  refine pl_take (v := ?_) rfl ?_ ?_
  rotate_left
  · (go_simp; first | done | with_reducible rfl | rfl | omega | assumption | (simp; omega))
  (try simp only [Act.put, aP, aZ, aS])
  refine pl_done ?_
  refine hK5.out _ _ ?_
  (try clear hK5 K5)
  refine wk_seq (fun K6 hK6 => ?_)
  refine rg_start rfl (by assumption) (fun wr6 hsr6 => ?_)
  refine rg_take (i := 0) (v := ?_) rfl (by kernel_rfl) (by kernel_rfl) (by kernel_rfl) (fun _ _ _ h => h) rfl (by assumption) ?_ ?_
  rotate_left
  · intro w hSw; (go_simp; first | done | with_reducible rfl | rfl | omega | assumption | (simp; omega))
  (try simp only [Act.put, aP, aZ, aS])
  refine rg_take (i := 2) (v := ?_) rfl (by kernel_rfl) (by kernel_rfl) (by kernel_rfl) (fun _ _ _ h => h) rfl (by assumption) ?_ ?_
  rotate_left
  · intro w hSw; (go_simp; first | done | with_reducible rfl | rfl | omega | assumption | (simp; omega))
  (try simp only [Act.put, aP, aZ, aS])
  refine rg_take (i := 5) (v := ?_) rfl (by kernel_rfl) (by kernel_rfl) (by kernel_rfl) (fun _ _ _ h => h) rfl (by assumption) ?_ ?_
  rotate_left
  · intro w hSw; (go_simp; first | done | with_reducible rfl | rfl | omega | assumption | (simp; omega))
  (try simp only [Act.put, aP, aZ, aS])
  refine rg_take (i := 8) (v := ?_) rfl (by kernel_rfl) (by kernel_rfl) (by kernel_rfl) (fun _ _ _ h => h) rfl (by assumption) ?_ ?_
  rotate_left
  · intro w hSw; (go_simp; first | done | with_reducible rfl | rfl | omega | assumption | (simp; omega))
  (try simp only [Act.put, aP, aZ, aS])
  refine rg_take (i := 11) (v := ?_) rfl (by kernel_rfl) (by kernel_rfl) (by kernel_rfl) (fun _ _ _ h => h) rfl (by assumption) ?_ ?_
  rotate_left
  · intro w hSw; (go_simp; first | done | with_reducible rfl | rfl | omega | assumption | (simp; omega))
  (try simp only [Act.put, aP, aZ, aS])
  refine rg_one (i := 1) (by kernel_rfl) rfl rfl (fun Kp hKp => ?_)
  go_simp
  ((refine (numL_spec _ (by assumption)).mono ?_); rintro e40 w40 ⟨rfl, hs40⟩)
  (try go_wp2_with fail)
  refine rg_back (hK := hKp) ?_ (fun hsk40 => ?_)
  · (first | assumption | (apply Sat.drew; assumption) | (apply Sat.pick; assumption; (repeat (first | exact Pick.nil _ | with_reducible exact Pick.tail _ | with_reducible exact Out.here _ | apply Out.there | apply Pick.cons | apply Pick.drop))))
  clear hKp Kp
  have hsz40 := hs40
  (try simp only [Act.put, aP, aZ, aS])
  refine rg_one (i := 3) (by kernel_rfl) rfl rfl (fun Kp hKp => ?_)
  go_simp
  ((refine (numL_spec _ (by assumption)).mono ?_); rintro e42 w42 ⟨rfl, hs42⟩)
  (try go_wp2_with fail)
  refine rg_back (hK := hKp) ?_ (fun hsk42 => ?_)
  · (first | assumption | (apply Sat.drew; assumption) | (apply Sat.pick; assumption; (repeat (first | exact Pick.nil _ | with_reducible exact Pick.tail _ | with_reducible exact Out.here _ | apply Out.there | apply Pick.cons | apply Pick.drop))))
  clear hKp Kp
  have hsz42 := hs42
  (try simp only [Act.put, aP, aZ, aS])
  refine rg_take (i := 4) (v := ?_) rfl (by kernel_rfl) (by kernel_rfl) (by kernel_rfl) (fun _ _ _ h => h) rfl (by assumption) ?_ ?_
  rotate_left
  · intro w hSw; (go_simp; first | done | with_reducible rfl | rfl | omega | assumption | (simp; omega))
  (try simp only [Act.put, aP, aZ, aS])
  refine rg_one (i := 6) (by kernel_rfl) rfl rfl (fun Kp hKp => ?_)
  go_simp
  ((refine (numL_spec _ (by assumption)).mono ?_); rintro e45 w45 ⟨rfl, hs45⟩)
  (try go_wp2_with fail)
  refine rg_back (hK := hKp) ?_ (fun hsk45 => ?_)
  · (first | assumption | (apply Sat.drew; assumption) | (apply Sat.pick; assumption; (repeat (first | exact Pick.nil _ | with_reducible exact Pick.tail _ | with_reducible exact Out.here _ | apply Out.there | apply Pick.cons | apply Pick.drop))))
  clear hKp Kp
  have hsz45 := hs45
  (try simp only [Act.put, aP, aZ, aS])
  refine rg_take (i := 7) (v := ?_) rfl (by kernel_rfl) (by kernel_rfl) (by kernel_rfl) (fun _ _ _ h => h) rfl (by assumption) ?_ ?_
  rotate_left
  · intro w hSw; (go_simp; first | done | with_reducible rfl | rfl | omega | assumption | (simp; omega))
  (try simp only [Act.put, aP, aZ, aS])
  refine rg_one (i := 9) (by kernel_rfl) rfl rfl (fun Kp hKp => ?_)
  go_simp
  ((refine (numL_spec _ (by assumption)).mono ?_); rintro e48 w48 ⟨rfl, hs48⟩)
  (try go_wp2_with fail)
  refine rg_back (hK := hKp) ?_ (fun hsk48 => ?_)
  · (first | assumption | (apply Sat.drew; assumption) | (apply Sat.pick; assumption; (repeat (first | exact Pick.nil _ | with_reducible exact Pick.tail _ | with_reducible exact Out.here _ | apply Out.there | apply Pick.cons | apply Pick.drop))))
  clear hKp Kp
  have hsz48 := hs48
  (try simp only [Act.put, aP, aZ, aS])
  refine rg_take (i := 10) (v := ?_) rfl (by kernel_rfl) (by kernel_rfl) (by kernel_rfl) (fun _ _ _ h => h) rfl (by assumption) ?_ ?_
  rotate_left
  · intro w hSw; (go_simp; first | done | with_reducible rfl | rfl | omega | assumption | (simp; omega))
  (try simp only [Act.put, aP, aZ, aS])
  refine rg_one (i := 12) (by kernel_rfl) rfl rfl (fun Kp hKp => ?_)
  go_simp
  ((refine (numL_spec _ (by assumption)).mono ?_); rintro e51 w51 ⟨rfl, hs51⟩)
  (try go_wp2_with fail)
  refine rg_back (hK := hKp) ?_ (fun hsk51 => ?_)
  · (first | assumption | (apply Sat.drew; assumption) | (apply Sat.pick; assumption; (repeat (first | exact Pick.nil _ | with_reducible exact Pick.tail _ | with_reducible exact Out.here _ | apply Out.there | apply Pick.cons | apply Pick.drop))))
  clear hKp Kp
  have hsz51 := hs51
  (try simp only [Act.put, aP, aZ, aS])
  refine rg_take (i := 13) (v := ?_) rfl (by kernel_rfl) (by kernel_rfl) (by kernel_rfl) (fun _ _ _ h => h) rfl (by assumption) ?_ ?_
  rotate_left
  · intro w hSw; (go_simp; first | done | with_reducible rfl | rfl | omega | assumption | (simp; omega))
  (try simp only [Act.put, aP, aZ, aS])
  refine rg_take (i := 14) (v := .bool true) rfl (by kernel_rfl) (by kernel_rfl) (by kernel_rfl) (fun _ _ _ h => h) rfl (by assumption) ?_ ?_
  · intro w hSw; (go_simp; first | done | with_reducible rfl | rfl | omega | assumption | (simp; omega))
  (try simp only [Act.put, aP, aZ, aS])
  refine rg_take (i := 15) (v := .bool true) rfl (by kernel_rfl) (by kernel_rfl) (by kernel_rfl) (fun _ _ _ h => h) rfl (by assumption) ?_ ?_
  · intro w hSw; (go_simp; first | done | with_reducible rfl | rfl | omega | assumption | (simp; omega))
  (try simp only [Act.put, aP, aZ, aS])
  refine rg_take (i := 16) (v := ?_) rfl (by kernel_rfl) (by kernel_rfl) (by kernel_rfl) (fun _ _ _ h => h) (by kernel_rfl) (by assumption) ?_ ?_
  rotate_left
  · intro w hSw; (go_simp; first | done | with_reducible rfl | rfl | omega | assumption | (simp; omega))
  (try simp only [Act.put, aP, aZ, aS])
  refine rg_take (i := 17) (v := ?_) rfl (by kernel_rfl) (by kernel_rfl) (by kernel_rfl) (fun _ _ _ h => h) (by kernel_rfl) (by assumption) ?_ ?_
  rotate_left
  · intro w hSw; ((with_reducible apply yl_load); assumption; rfl; (repeat (first | with_reducible assumption | ((with_reducible apply Cl.own); exact rfl) | ((with_reducible apply Cl.blkL); exact rfl) | with_reducible apply Cl.cons)); rfl)
  (try simp only [Act.put, aP, aZ, aS])
  refine rg_take (i := 18) (v := .bool true) rfl (by kernel_rfl) (by kernel_rfl) (by kernel_rfl) (fun _ _ _ h => h) (by kernel_rfl) (by assumption) ?_ ?_
  · intro w hSw; (go_simp; first | done | with_reducible rfl | rfl | omega | assumption | (simp; omega))
  (try simp only [Act.put, aP, aZ, aS])
  refine rg_take (i := 19) (v := .bool true) rfl (by kernel_rfl) (by kernel_rfl) (by kernel_rfl) (fun _ _ _ h => h) rfl (by assumption) ?_ ?_
  · intro w hSw; (go_simp; first | done | with_reducible rfl | rfl | omega | assumption | (simp; omega))
  (try simp only [Act.put, aP, aZ, aS])
  refine rg_take (i := 20) (v := .bool true) rfl (by kernel_rfl) (by kernel_rfl) (by kernel_rfl) (fun _ _ _ h => h) rfl (by assumption) ?_ ?_
  · intro w hSw; (go_simp; first | done | with_reducible rfl | rfl | omega | assumption | (simp; omega))
  (try simp only [Act.put, aP, aZ, aS])
  refine rg_take (i := 21) (v := ?_) rfl (by kernel_rfl) (by kernel_rfl) (by kernel_rfl) (fun _ _ _ h => h) (by kernel_rfl) (by assumption) ?_ ?_
  rotate_left
  · intro w hSw; (go_simp; first | done | with_reducible rfl | rfl | omega | assumption | (simp; omega))
  (try simp only [Act.put, aP, aZ, aS])
  refine rg_take (i := 22) (v := ?_) rfl (by kernel_rfl) (by kernel_rfl) (by kernel_rfl) (fun _ _ _ h => h) (by kernel_rfl) (by assumption) ?_ ?_
  rotate_left
  · intro w hSw; ((with_reducible apply yl_load); assumption; rfl; (repeat (first | with_reducible assumption | ((with_reducible apply Cl.own); exact rfl) | ((with_reducible apply Cl.blkL); exact rfl) | with_reducible apply Cl.cons)); rfl)
  (try simp only [Act.put, aP, aZ, aS])
  refine rg_take (i := 24) (v := ?_) rfl (by kernel_rfl) (by kernel_rfl) (by kernel_rfl) (fun _ _ _ h => h) (by kernel_rfl) (by assumption) ?_ ?_
  rotate_left
  · intro w hSw; (go_simp; first | done | with_reducible rfl | rfl | omega | assumption | (simp; omega))
  (try simp only [Act.put, aP, aZ, aS])
  refine rg_take (i := 25) (v := ?_) rfl (by kernel_rfl) (by kernel_rfl) (by kernel_rfl) (fun _ _ _ h => h) (by kernel_rfl) (by assumption) ?_ ?_
  rotate_left
  · intro w hSw; ((with_reducible apply yl_load); assumption; rfl; (repeat (first | with_reducible assumption | ((with_reducible apply Cl.own); exact rfl) | ((with_reducible apply Cl.blkL); exact rfl) | with_reducible apply Cl.cons)); rfl)
  (try simp only [Act.put, aP, aZ, aS])
  refine rg_take (i := 28) (v := ?_) rfl (by kernel_rfl) (by kernel_rfl) (by kernel_rfl) (fun _ _ _ h => h) (by kernel_rfl) (by assumption) ?_ ?_
  rotate_left
  · intro w hSw; (go_simp; first | done | with_reducible rfl | rfl | omega | assumption | (simp; omega))
  (try simp only [Act.put, aP, aZ, aS])
  refine rg_take (i := 29) (v := ?_) rfl (by kernel_rfl) (by kernel_rfl) (by kernel_rfl) (fun _ _ _ h => h) (by kernel_rfl) (by assumption) ?_ ?_
  rotate_left
  · intro w hSw; ((with_reducible apply yl_load); assumption; rfl; (repeat (first | with_reducible assumption | ((with_reducible apply Cl.own); exact rfl) | ((with_reducible apply Cl.blkL); exact rfl) | with_reducible apply Cl.cons)); rfl)
  (try simp only [Act.put, aP, aZ, aS])
  refine rg_take (i := 31) (v := ?_) rfl (by kernel_rfl) (by kernel_rfl) (by kernel_rfl) (fun _ _ _ h => h) (by kernel_rfl) (by assumption) ?_ ?_
  rotate_left
  · intro w hSw; (go_simp; first | done | with_reducible rfl | rfl | omega | assumption | (simp; omega))
  (try simp only [Act.put, aP, aZ, aS])
  refine rg_take (i := 32) (v := ?_) rfl (by kernel_rfl) (by kernel_rfl) (by kernel_rfl) (fun _ _ _ h => h) (by kernel_rfl) (by assumption) ?_ ?_
  rotate_left
  · intro w hSw; ((with_reducible apply yl_load); assumption; rfl; (repeat (first | with_reducible assumption | ((with_reducible apply Cl.own); exact rfl) | ((with_reducible apply Cl.blkL); exact rfl) | with_reducible apply Cl.cons)); rfl)
  (try simp only [Act.put, aP, aZ, aS])
  refine rg_one (i := 23) (by kernel_rfl) rfl (by kernel_rfl) (fun Kp hKp => ?_)
  go_simp
  ((refine (numL_spec _ (by assumption)).mono ?_); rintro e62 w62 ⟨rfl, hs62⟩)
  (try go_wp2_with fail)
  refine rg_back (hK := hKp) ?_ (fun hsk62 => ?_)
  · (first | assumption | (apply Sat.drew; assumption) | (apply Sat.pick; assumption; (repeat (first | exact Pick.nil _ | with_reducible exact Pick.tail _ | with_reducible exact Out.here _ | apply Out.there | apply Pick.cons | apply Pick.drop))))
  clear hKp Kp
  have hsz62 := hs62
  (try simp only [Act.put, aP, aZ, aS])
  refine rg_one (i := 26) (by kernel_rfl) rfl (by kernel_rfl) (fun Kp hKp => ?_)
  go_simp
  ((refine (numL_spec _ (by assumption)).mono ?_); rintro e65 w65 ⟨rfl, hs65⟩)
  (try go_wp2_with fail)
  refine rg_back (hK := hKp) ?_ (fun hsk65 => ?_)
  · (first | assumption | (apply Sat.drew; assumption) | (apply Sat.pick; assumption; (repeat (first | exact Pick.nil _ | with_reducible exact Pick.tail _ | with_reducible exact Out.here _ | apply Out.there | apply Pick.cons | apply Pick.drop))))
  clear hKp Kp
  have hsz65 := hs65
  (try simp only [Act.put, aP, aZ, aS])
  refine rg_take (i := 27) (v := ?_) rfl (by kernel_rfl) (by kernel_rfl) (by kernel_rfl) (fun _ _ _ h => h) (by kernel_rfl) (by assumption) ?_ ?_
  rotate_left
  · intro w hSw; (go_simp; first | done | with_reducible rfl | rfl | omega | assumption | (simp; omega))
  (try simp only [Act.put, aP, aZ, aS])
  refine rg_take (i := 30) (v := ?_) rfl (by kernel_rfl) (by kernel_rfl) (by kernel_rfl) (fun _ _ _ h => h) (by kernel_rfl) (by assumption) ?_ ?_
  rotate_left
  · intro w hSw; (go_simp; first | done | with_reducible rfl | rfl | omega | assumption | (simp; omega))
  (try simp only [Act.put, aP, aZ, aS])
  refine rg_take (i := 33) (v := ?_) rfl (by kernel_rfl) (by kernel_rfl) (by kernel_rfl) (fun _ _ _ h => h) (by kernel_rfl) (by assumption) ?_ ?_
  rotate_left
  · intro w hSw; (go_simp; first | done | with_reducible rfl | rfl | omega | assumption | (simp; omega))
  (try simp only [Act.put, aP, aZ, aS])
  refine rg_take (i := 34) (v := .bool true) rfl (by kernel_rfl) (by kernel_rfl) (by kernel_rfl) (fun _ _ _ h => h) (by kernel_rfl) (by assumption) ?_ ?_
  · intro w hSw; (go_simp; first | done | with_reducible rfl | rfl | omega | assumption | (simp; omega))
  (try simp only [Act.put, aP, aZ, aS])
  refine rg_take (i := 35) (v := .bool true) rfl (by kernel_rfl) (by kernel_rfl) (by kernel_rfl) (fun _ _ _ h => h) rfl (by assumption) ?_ ?_
  · intro w hSw; (go_simp; first | done | with_reducible rfl | rfl | omega | assumption | (simp; omega))
  (try simp only [Act.put, aP, aZ, aS])
  refine rg_take (i := 36) (v := .bool true) rfl (by kernel_rfl) (by kernel_rfl) (by kernel_rfl) (fun _ _ _ h => h) rfl (by assumption) ?_ ?_
  · intro w hSw; (go_simp; first | done | with_reducible rfl | rfl | omega | assumption | (simp; omega))
  (try simp only [Act.put, aP, aZ, aS])
  refine rg_take (i := 37) (v := ?_) rfl (by kernel_rfl) (by kernel_rfl) (by kernel_rfl) (fun _ _ _ h => h) (by kernel_rfl) (by assumption) ?_ ?_
  rotate_left
  · intro w hSw; (go_simp; first | done | with_reducible rfl | rfl | omega | assumption | (simp; omega))
  (try simp only [Act.put, aP, aZ, aS])
  refine rg_take (i := 38) (v := ?_) rfl (by kernel_rfl) (by kernel_rfl) (by kernel_rfl) (fun _ _ _ h => h) (by kernel_rfl) (by assumption) ?_ ?_
  rotate_left
  · intro w hSw; ((with_reducible apply yl_load); assumption; rfl; (repeat (first | with_reducible assumption | ((with_reducible apply Cl.own); exact rfl) | ((with_reducible apply Cl.blkL); exact rfl) | with_reducible apply Cl.cons)); rfl)
  (try simp only [Act.put, aP, aZ, aS])
  refine rg_one (i := 39) (by kernel_rfl) rfl (by kernel_rfl) (fun Kp hKp => ?_)
  go_simp
  ((refine (numL_spec _ (by assumption)).mono ?_); rintro e78 w78 ⟨rfl, hs78⟩)
  (try go_wp2_with fail)
  refine rg_back (hK := hKp) ?_ (fun hsk78 => ?_)
  · (first | assumption | (apply Sat.drew; assumption) | (apply Sat.pick; assumption; (repeat (first | exact Pick.nil _ | with_reducible exact Pick.tail _ | with_reducible exact Out.here _ | apply Out.there | apply Pick.cons | apply Pick.drop))))
  clear hKp Kp
  have hsz78 := hs78
  (try simp only [Act.put, aP, aZ, aS])
  refine rg_take (i := 40) (v := .bool true) rfl (by kernel_rfl) (by kernel_rfl) (by kernel_rfl) (fun _ _ _ h => h) (by kernel_rfl) (by assumption) ?_ ?_
  · intro w hSw; (go_simp; first | done | with_reducible rfl | rfl | omega | assumption | (simp; omega))
  (try simp only [Act.put, aP, aZ, aS])
  refine rg_take (i := 41) (v := .bool true) rfl (by kernel_rfl) (by kernel_rfl) (by kernel_rfl) (fun _ _ _ h => h) rfl (by assumption) ?_ ?_
  · intro w hSw; (go_simp; first | done | with_reducible rfl | rfl | omega | assumption | (simp; omega))
  (try simp only [Act.put, aP, aZ, aS])
  refine rg_take (i := 42) (v := .bool true) rfl (by kernel_rfl) (by kernel_rfl) (by kernel_rfl) (fun _ _ _ h => h) rfl (by assumption) ?_ ?_
  · intro w hSw; (go_simp; first | done | with_reducible rfl | rfl | omega | assumption | (simp; omega))
  (try simp only [Act.put, aP, aZ, aS])
  refine rg_take (i := 43) (v := ?_) rfl (by kernel_rfl) (by kernel_rfl) (by kernel_rfl) (fun _ _ _ h => h) (by kernel_rfl) (by assumption) ?_ ?_
  rotate_left
  · intro w hSw; (go_simp; first | done | with_reducible rfl | rfl | omega | assumption | (simp; omega))
  (try simp only [Act.put, aP, aZ, aS])
  refine rg_one (i := 44) (by kernel_rfl) rfl (by kernel_rfl) (fun Kp hKp => ?_)
  go_simp
  (refine (hN _ _ _ ((by assumption : Sat w0 _ _).pick (.cons (by (repeat (first | with_reducible exact Out.here _ | apply Out.there))) (.tail _)))).mono ?_; rintro e83 w83 ⟨rfl, hs83⟩)
  (try go_wp2_with fail)
  refine rg_back (hK := hKp) ?_ (fun hsk83 => ?_)
  · (first | assumption | (apply Sat.drew; assumption) | (apply Sat.pick; assumption; (repeat (first | exact Pick.nil _ | with_reducible exact Pick.tail _ | with_reducible exact Out.here _ | apply Out.there | apply Pick.cons | apply Pick.drop))))
  clear hKp Kp
  have hsz83 := hs83
  (try simp only [Act.put, aP, aZ, aS])
  refine rg_take (i := 45) (v := .bool true) rfl (by kernel_rfl) (by kernel_rfl) (by kernel_rfl) (fun _ _ _ h => h) (by kernel_rfl) (by assumption) ?_ ?_
  · intro w hSw; (go_simp; first | done | with_reducible rfl | rfl | omega | assumption | (simp; omega))
  (try simp only [Act.put, aP, aZ, aS])
  refine rg_take (i := 46) (v := .bool true) rfl (by kernel_rfl) (by kernel_rfl) (by kernel_rfl) (fun _ _ _ h => h) rfl (by assumption) ?_ ?_
  · intro w hSw; (go_simp; first | done | with_reducible rfl | rfl | omega | assumption | (simp; omega))
  (try simp only [Act.put, aP, aZ, aS])
  refine rg_take (i := 47) (v := .bool true) rfl (by kernel_rfl) (by kernel_rfl) (by kernel_rfl) (fun _ _ _ h => h) rfl (by assumption) ?_ ?_
  · intro w hSw; (go_simp; first | done | with_reducible rfl | rfl | omega | assumption | (simp; omega))
  (try simp only [Act.put, aP, aZ])
  refine rg_done (by kernel_rfl) ?_
  refine hK6.out _ _ ?_
  (try clear hK6 K6)
  refine wp_ret ?_
  go_ret
  exact ⟨rfl, (by assumption : Sat w0 _ _).pick (by (repeat (first | exact Pick.nil _ | exact Pick.tail _ | exact Out.here _ | apply Out.there | apply Pick.cons | apply Pick.drop)))⟩
end Go.Proofs.Ytdlimjcidblneaa
