/-
  Messages: Put of the program.
-/
import Derived.Test.YtcedbmcnjckajaaMsg3
import Derived.Deep.CutRange
namespace Go.Proofs.Ytcedbmcnjckajaa
open Go Go.RowKit Sl Go.Shelf
set_option maxHeartbeats 2000000
set_option maxRecDepth 8000


theorem bytes_m_spec {w0 w : World} {L : List HP} {A : Option Addr} {c : Nat} (l : List UInt8) (hl : l.length ≤ 1048576) (hs : Sat w0 w L) (hR : Rd w0 L A l.length 1 (B8 l)) :
    Calls Try.prog 27 #[.slice A l.length c] w (RetS w0 L (text l)) := by
  have hpb : ∀ {w : World} {L : List HP}, Sat w0 w L → Rd w0 L A l.length 1 (B8 l) → Calls Try.prog 56 #[.slice A l.length c] w (RetT w0 L (text l, 0)) := fun hs hr => by
    have := putBytes_spec (c := c) l (by omega) hs hr
    rwa [show putBytes l = (text l, 0) from by unfold putBytes; rw [if_neg (by omega)]; rfl] at this
  obtain ⟨z, hz⟩ : ∃ z, z = text l := ⟨_, rfl⟩
  rw [← hz] at hpb ⊢
  clear hz
  go_enter Try.func27, Try.ntmps27
  refine wk_seq (fun K0 hK0 => ?_)
  refine wk_reg ?_
  refine pl_take (v := ?_) rfl ?_ ?_
  rotate_left
  · (go_simp; first | done | with_reducible rfl | rfl | omega | assumption | (simp; omega))
  (try simp only [Act.put, aP, aZ, aS])
  refine pl_done ?_
  refine hK0.out _ _ ?_
  (try clear hK0 K0)
  refine wk_seq (fun K1 hK1 => ?_)
  refine wk_reg ?_
  refine pl_take (v := ?_) rfl ?_ ?_
  rotate_left
  · (go_simp; first | done | with_reducible rfl | rfl | omega | assumption | (simp; omega))
  (try simp only [Act.put, aP, aZ, aS])
  refine pl_eff rfl (fun Kp hKp => ?_)
  go_simp
  ((refine (hpb (by assumption) (by (repeat (first | with_reducible assumption | with_reducible exact Rd.own | with_reducible exact Rd.nil | with_reducible apply Rd.cons)))).mono ?_); rintro e7 w7 ⟨A7, c7, rfl, hs7⟩)
  (try go_wp2_with fail)
  refine hKp.out _ _ ?_
  clear hKp Kp
  (try simp only [Act.put, aP, aZ, aS])
  iterate 5 (refine pl_take (v := ?_) rfl ?_ ?_; rotate_left; (· (go_simp; first | done | with_reducible rfl | rfl | omega | assumption | (simp; omega))); (try simp only [Act.put, aP, aZ, aS]))
  refine pl_done ?_
  refine hK1.out _ _ ?_
  (try clear hK1 K1)
  refine wk_seq (fun K2 hK2 => ?_)
  refine wk_reg ?_
  refine pl_take (v := ?_) rfl ?_ ?_
  rotate_left
  · (go_simp; first | done | with_reducible rfl | rfl | omega | assumption | (simp; omega))
  (try simp only [Act.put, aP, aZ, aS])
  refine pl_take (v := .bool true) rfl ?_ ?_
  · (go_simp; first | done | with_reducible rfl | rfl | omega | assumption | (simp; omega))
  (try simp only [Act.put, aP, aZ, aS])
  refine pl_take (v := ?_) rfl ?_ ?_
  rotate_left
  · (go_simp; first | done | with_reducible rfl | rfl | omega | assumption | (simp; omega))
  (try simp only [Act.put, aP, aZ, aS])
  refine pl_eff rfl (fun Kp hKp => ?_)
  go_simp
  ((refine (demand_ok _).mono ?_); rintro e13 w13 ⟨rfl, rfl⟩)
  (try go_wp2_with fail)
  refine hKp.out _ _ ?_
  clear hKp Kp
  (try simp only [Act.put, aP, aZ, aS])
  refine pl_done ?_
  refine hK2.out _ _ ?_
  (try clear hK2 K2)
  refine wk_seq (fun K3 hK3 => ?_)
  refine wk_reg ?_
  iterate 2 (refine pl_take (v := ?_) rfl ?_ ?_; rotate_left; (· (go_simp; first | done | with_reducible rfl | rfl | omega | assumption | (simp; omega))); (try simp only [Act.put, aP, aZ, aS]))
  refine pl_done ?_
  refine hK3.out _ _ ?_
  (try clear hK3 K3)
  refine wp_ret ?_
  go_ret
  exact ⟨A7, c7, rfl, hs7⟩

/-- A number that may stand in a message. -/
theorem put_num {n : Int} (h0 : 0 ≤ n) (h1 : n ≤ 1099511627776) : putNumber n = (num n.toNat, 0) := by unfold putNumber; rw [if_neg (by omega)]

/-- It has put bytes, and no error; or given up. -/
theorem putM_bad {m : Msg} (h : rightP m = false) : putMsg m = ([], 1) := by
  have : rightM m = false := by rw [Bool.eq_false_iff]; intro hh; rw [rightM_iff] at hh; simp [h] at hh
  unfold putMsg; rw [this]; rfl


/-- What stands behind the results: caught, where the program gave up. -/
theorem put_caught {w0 w : World} {L : List HP} {px pe : Nat} {vx ve : Value} {tmps : Array Value} (v : Int) (hp : tmps.getD 2 undef = .pointer (some ⟨px, 0, none⟩)) (hq : tmps.getD 3 undef = .pointer (some ⟨pe, 0, none⟩))
    (hs : Sat w0 w (blk px (.cells #[vx] 24 (0, 0)) :: blk pe (.cells #[ve] 29 (0, 0)) :: L)) :
    Leaves Try.prog Try.f10 tmps (RetT w0 L ([], v)) [{ target := .fn (.func 21) #[], args := #[.pointer (some ⟨px, 0, none⟩), .pointer (some ⟨pe, 0, none⟩)] }] (.panicking (quitV v)) w := by
  refine leaves_cons (f := 21) (args := #[.pointer (some ⟨px, 0, none⟩), .pointer (some ⟨pe, 0, none⟩)]) (by simp) (by simp [go_sem]) ?_
  refine (caught_bytes v hs).mono ?_
  rintro e u' w2 ⟨rfl, rfl, hs2⟩
  have c1 : w2.cell? ⟨px, 0, none⟩ = some (.slice none 0 0) := (Cl.cons (Cl.blk rfl)) w2 hs2
  have c2 : w2.cell? ⟨pe, 0, none⟩ = some (.int .i64 v) := (Cl.blk rfl) w2 hs2
  rw [Array.getD_eq_getD_getElem?] at hp hq
  simp [Leaves, settle, results, Try.results10, go_sem, hp, hq, c1, c2]
  exact ⟨_, _, rfl, (hs2.own_nil _ _).pick (by (repeat (first | exact Pick.nil _ | exact Pick.tail _ | exact Out.here _ | apply Out.there | apply Pick.cons | apply Pick.drop)))⟩
theorem put_leaves {w0 w : World} {L : List HP} {px pe : Nat} {A : Option Addr} {c : Nat} {tmps : Array Value} (l : List UInt8) (hp : tmps.getD 2 undef = .pointer (some ⟨px, 0, none⟩)) (hq : tmps.getD 3 undef = .pointer (some ⟨pe, 0, none⟩))
    (hs : Sat w0 w (blk px (.cells #[.slice A l.length c] 24 (0, 0)) :: blk pe (.cells #[.int .i64 0] 29 (0, 0)) :: own 5 1 A c l.length (B8 l) :: L)) :
    Leaves Try.prog Try.f10 tmps (RetT w0 L (l, 0)) [{ target := .fn (.func 21) #[], args := #[.pointer (some ⟨px, 0, none⟩), .pointer (some ⟨pe, 0, none⟩)] }] .returning w := by
  refine leaves_cons (f := 21) (args := #[.pointer (some ⟨px, 0, none⟩), .pointer (some ⟨pe, 0, none⟩)]) (by simp) (by simp [go_sem]) ?_
  refine caught_bytes_idle.mono ?_
  rintro e u' w2 ⟨rfl, rfl, rfl⟩
  have c1 : w.cell? ⟨px, 0, none⟩ = some (.slice A l.length c) := (Cl.blk rfl) w hs
  have c2 : w.cell? ⟨pe, 0, none⟩ = some (.int .i64 0) := (Cl.cons (Cl.blk rfl)) w hs
  rw [Array.getD_eq_getD_getElem?] at hp hq
  simp [Leaves, settle, results, Try.results10, go_sem, hp, hq, c1, c2]
  exact ⟨_, _, rfl, hs.pick (by (repeat (first | exact Pick.nil _ | exact Pick.tail _ | exact Out.here _ | apply Out.there | apply Pick.cons | apply Pick.drop)))⟩

theorem putn_spec {w0 w : World} {L : List HP} {n : Int} (h0 : 0 ≤ n) (h1 : n ≤ 1099511627776) (hs : Sat w0 w L) : Calls Try.prog 24 #[.int .i64 n] w (RetT w0 L (num n.toNat, 0)) := by
  have := putNumber_spec n hs
  rwa [put_num h0 h1] at this


theorem RdBB.three {w0 : World} {L : List HP} {E : TypeId} {b c : Nat} {A B C : Option Addr} {ca cb cc na nb nc : Nat} {la lb lc : List UInt8} (ha : Rd w0 L A na 1 (B8 la)) (hb : Rd w0 L B nb 1 (B8 lb)) (hc : Rd w0 L C nc 1 (B8 lc)) (ea : na = la.length) (eb : nb = lb.length) (ec : nc = lc.length) :
    RdBB w0 (own E 1 (some ⟨b, 0, none⟩) c 3 [.slice A na ca, .slice B nb cb, .slice C nc cc] :: L) (some ⟨b, 0, none⟩) 3 [la, lb, lc] := by
  subst ea eb ec
  refine ⟨_, Rd.own, rfl, rfl, fun i l hl => ?_⟩
  match i, hl with
  | 0, hl => cases hl; exact ⟨A, ca, rfl, ha.cons⟩
  | 1, hl => cases hl; exact ⟨B, cb, rfl, hb.cons⟩
  | 2, hl => cases hl; exact ⟨C, cc, rfl, hc.cons⟩
  | i + 3, hl => simp at hl


theorem catEnts_succ {es : List Ent} {k : Nat} {x : Ent} (h : es[k]? = some x) : catEnts (es.take (k + 1)) = catEnts (es.take k) ++ text (entBytes x) := by
  rw [List.take_add_one, h]; simp [catEnts]

theorem all_succ {es : List Ent} {k : Nat} {x : Ent} (h : es[k]? = some x) (ha : (es.take k).all rightE = true) (hx : rightE x = true) : (es.take (k + 1)).all rightE = true := by
  rw [List.take_add_one, h]; simp [hx] at ha ⊢; exact ha

theorem all_false {es : List Ent} {k : Nat} {x : Ent} (h : es[k]? = some x) (hx : rightE x = false) : es.all rightE = false := by
  rw [List.all_eq_false]
  exact ⟨x, List.mem_of_getElem? h, by simp [hx]⟩

theorem okNums_iff {m : Msg} : okNums m = true ↔ (1 ≤ m.kd ∧ m.kd ≤ 6 ∧ 0 ≤ m.fr ∧ m.fr < 16 ∧ 0 ≤ m.dn ∧ m.dn < 16 ∧ 1 ≤ m.tm ∧ m.tm < 1099511627776 ∧ 0 ≤ m.na ∧ m.na ≤ 1099511627776 ∧ 0 ≤ m.nb ∧ m.nb ≤ 1099511627776 ∧ 0 ≤ m.nc ∧ m.nc ≤ 1099511627776 ∧ 0 ≤ m.nd ∧ m.nd ≤ 1099511627776) := by simp only [okNums, decide_eq_true_eq]

theorem put_spec {w0 w : World} {L : List HP} {A B C : Option Addr} {ca cb cc : Nat} (kd fr dn tm na nb nc nd : Int) (yes : Bool) (es : List Ent) (sv : List Int) (dt : List UInt8)
    (he : es.length ≤ 1048576) (hv : sv.length ≤ 1048576) (hd : dt.length ≤ 1048576) (hlen : ∀ x ∈ es, x.d.length ≤ 1048576) (hs : Sat w0 w L)
    (hE : SlV EntV 4 (Rd w0 L) [.slice A es.length ca] es) (hB : Rd w0 L B sv.length 1 (I8 sv)) (hC : Rd w0 L C dt.length 1 (B8 dt)) :
    Calls Try.prog 10 #[.agg #[.int .i64 kd, .int .i64 fr, .int .i64 dn, .int .i64 tm, .int .i64 na, .int .i64 nb, .int .i64 nc, .int .i64 nd, .bool yes, .slice A es.length ca, .slice B sv.length cb, .slice C dt.length cc]] w
      (RetT w0 L (putMsg ⟨kd, fr, dn, tm, na, nb, nc, nd, yes, es, sv, dt⟩)) := by
  obtain ⟨β, hβ⟩ : ∃ β, rightP ⟨kd, fr, dn, tm, na, nb, nc, nd, yes, es, sv, dt⟩ = β := ⟨_, rfl⟩
  have hR := fun (w : World) (L : List HP) (hs : Sat w0 w L) => right_m_spec (A := A) (B := B) (C := C) (ca := ca) (cb := cb) (cc := cc) 1 kd fr dn tm na nb nc nd yes es sv dt he hv (by omega) hs
  rw [hβ] at hR
  cases β with
  | false =>
    rw [putM_bad hβ]
    clear hβ
    go_enter_defers Try.func10, Try.ntmps10
    refine wk_seq (fun K0 hK0 => ?_)
    refine wk_reg ?_
    refine pl_eff rfl (fun Kp hKp => ?_)
    ((with_reducible apply st_box); assumption; (go_simp; rfl); intro b1 w1 hs1; simp only [Value.cells] at hs1)
    refine hKp.out _ _ ?_
    clear hKp Kp
    (try simp only [Act.put, aP, aZ, aS])
    refine pl_eff rfl (fun Kp hKp => ?_)
    ((with_reducible apply st_alloc); assumption; intro b2 w2 hs2; simp only [Value.cells] at hs2)
    refine hKp.out _ _ ?_
    clear hKp Kp
    (try simp only [Act.put, aP, aZ, aS])
    refine pl_eff rfl (fun Kp hKp => ?_)
    ((with_reducible apply st_alloc); assumption; intro b3 w3 hs3; simp only [Value.cells] at hs3)
    refine hKp.out _ _ ?_
    clear hKp Kp
    (try simp only [Act.put, aP, aZ, aS])
    refine pl_done ?_
    refine hK0.out _ _ ?_
    (try clear hK0 K0)
    refine wk_seq (fun K1 hK1 => ?_)
    refine wk_reg ?_
    refine pl_eff rfl (fun Kp hKp => ?_)
    go_simp
    refine hKp.out _ _ ?_
    clear hKp Kp
    (try dsimp only [Act.put])
    refine pl_done ?_
    refine hK1.out _ _ ?_
    (try clear hK1 K1)
    refine wk_seq (fun K2 hK2 => ?_)
    refine wk_reg ?_
    refine pl_take (v := ?_) rfl ?_ ?_
    rotate_left
    · (first | ((with_reducible apply yl_loadAgg); assumption; rfl; (repeat (first | with_reducible exact Out.here _ | apply Out.there)); (simp); rfl; rfl) | ((with_reducible apply yl_loadAggR); assumption; rfl; (repeat (first | with_reducible assumption | with_reducible exact Rd.own | with_reducible exact Rd.nil | with_reducible apply Rd.cons)); rfl))
    (try simp only [Act.put, aP, aZ, aS])
    refine pl_eff rfl (fun Kp hKp => ?_)
    go_simp
    (refine (hR _ _ (by assumption)).mono ?_; rintro e18 w18 ⟨rfl, hs18⟩)
    -- it panics
    exact put_caught 1 rfl rfl (hs18.pick (by (repeat (first | exact Pick.nil _ | exact Pick.tail _ | exact Out.here _ | apply Out.there | apply Pick.cons | apply Pick.drop))))
  | true =>
    obtain ⟨hN, h8, h3, hD, h5⟩ := rightP_iff.1 hβ
    have hn := okNums_iff.1 hN
    simp only at hn h8 h3 hD h5
    obtain ⟨X, hX⟩ : ∃ X, putMsg ⟨kd, fr, dn, tm, na, nb, nc, nd, yes, es, sv, dt⟩ = X := ⟨_, rfl⟩
    rw [hX]
    have HX := Hid.mk' hX
    have Hβ := Hid.mk' hβ
    clear hX hβ hN
    have l0 := num_len6 kd.toNat (by omega)
    have l1 := num_len6 fr.toNat (by omega)
    have l2 := num_len6 dn.toNat (by omega)
    have l3 := num_len6 tm.toNat (by omega)
    have l4 := num_len6 na.toNat (by omega)
    have l5 := num_len6 nb.toNat (by omega)
    have l6 := num_len6 nc.toNat (by omega)
    have l7 := num_len6 nd.toNat (by omega)
    have hs0 := hs.own_nil 5 1
    go_enter_defers Try.func10, Try.ntmps10
    refine wk_seq (fun K0 hK0 => ?_)
    refine wk_reg ?_
    refine pl_eff rfl (fun Kp hKp => ?_)
    ((with_reducible apply st_box); assumption; (go_simp; rfl); intro b1 w1 hs1; simp only [Value.cells] at hs1)
    refine hKp.out _ _ ?_
    clear hKp Kp
    (try simp only [Act.put, aP, aZ, aS])
    refine pl_eff rfl (fun Kp hKp => ?_)
    ((with_reducible apply st_alloc); assumption; intro b2 w2 hs2; simp only [Value.cells] at hs2)
    refine hKp.out _ _ ?_
    clear hKp Kp
    (try simp only [Act.put, aP, aZ, aS])
    refine pl_eff rfl (fun Kp hKp => ?_)
    ((with_reducible apply st_alloc); assumption; intro b3 w3 hs3; simp only [Value.cells] at hs3)
    refine hKp.out _ _ ?_
    clear hKp Kp
    (try simp only [Act.put, aP, aZ, aS])
    refine pl_done ?_
    refine hK0.out _ _ ?_
    (try clear hK0 K0)
    refine wk_seq (fun K1 hK1 => ?_)
    refine wk_reg ?_
    refine pl_eff rfl (fun Kp hKp => ?_)
    go_simp
    refine hKp.out _ _ ?_
    clear hKp Kp
    (try dsimp only [Act.put])
    refine pl_done ?_
    refine hK1.out _ _ ?_
    (try clear hK1 K1)
    refine wk_seq (fun K2 hK2 => ?_)
    refine wk_reg ?_
    refine pl_take (v := ?_) rfl ?_ ?_
    rotate_left
    · (first | ((with_reducible apply yl_loadAgg); assumption; rfl; (repeat (first | with_reducible exact Out.here _ | apply Out.there)); (simp); rfl; rfl) | ((with_reducible apply yl_loadAggR); assumption; rfl; (repeat (first | with_reducible assumption | with_reducible exact Rd.own | with_reducible exact Rd.nil | with_reducible apply Rd.cons)); rfl))
    (try simp only [Act.put, aP, aZ, aS])
    refine pl_eff rfl (fun Kp hKp => ?_)
    go_simp
    (refine (hR _ _ (by assumption)).mono ?_; rintro e18 w18 ⟨rfl, hs18⟩)
    (try go_wp2_with fail)
    refine hKp.out _ _ ?_
    clear hKp Kp
    (try simp only [Act.put, aP, aZ, aS])
    refine pl_done ?_
    refine hK2.out _ _ ?_
    (try clear hK2 K2)
    refine wk_seq (fun K3 hK3 => ?_)
    -- at a cut
    obtain ⟨acc, hacc⟩ : ∃ acc, acc = catNums [kd, fr, dn, tm, na, nb, nc, nd] := ⟨_, rfl⟩
    have Hacc := Hid.mk' hacc
    have haccl : acc.length ≤ 64 := by rw [hacc]; simp [catNums]; omega
    clear hacc
    go_cut [] from 17 to 33 (fun w => ∃ A1 c1, Sat w0 w (blk b2 (.cells #[.slice A1 acc.length c1] 24 (0, 0)) :: own 5 1 A1 c1 acc.length (B8 acc) :: blk b3 (.cells #[.int .i64 0] 29 (0, 0)) :: blk b1 (.cells #[.int .i64 kd, .int .i64 fr, .int .i64 dn, .int .i64 tm, .int .i64 na, .int .i64 nb, .int .i64 nc, .int .i64 nd, .bool yes, .slice A es.length ca, .slice B sv.length cb, .slice C dt.length cc] 27 (0, 0)) :: L))
    case first =>
      refine wk_seq (fun K4 hK4 => ?_)
      refine wk_reg ?_
      refine pl_eff rfl (fun Kp hKp => ?_)
      go_simp
      ((refine (fields_spec (by assumption)).mono ?_); rintro e19 w19 ⟨rfl, hs19⟩)
      (try go_wp2_with fail)
      refine hKp.out _ _ ?_
      clear hKp Kp
      (try simp only [Act.put, aP, aZ, aS])
      refine pl_take (v := ?_) rfl ?_ ?_
      rotate_left
      · (go_simp; first | done | with_reducible rfl | rfl | omega | assumption | (simp; omega))
      (try simp only [Act.put, aP, aZ, aS])
      refine pl_done ?_
      refine hK4.out _ _ ?_
      (try clear hK4 K4)
      refine wp_block ?_
      have hwr1 : IntKind.i64.wrap 1 = 1 := by decide
      have hwr2 : IntKind.i64.wrap 2 = 2 := by decide
      have hwr3 : IntKind.i64.wrap 3 = 3 := by decide
      have hwr4 : IntKind.i64.wrap 4 = 4 := by decide
      have hwr5 : IntKind.i64.wrap 5 = 5 := by decide
      have hwr6 : IntKind.i64.wrap 6 = 6 := by decide
      have hwr7 : IntKind.i64.wrap 7 = 7 := by decide
      have hwr8 : IntKind.i64.wrap 8 = 8 := by decide
      have hwr9 : IntKind.i64.wrap 9 = 9 := by decide
      have hwr10 : IntKind.i64.wrap 10 = 10 := by decide
      have hwr11 : IntKind.i64.wrap 11 = 11 := by decide
      have hwr12 : IntKind.i64.wrap 12 = 12 := by decide
      have hwr13 : IntKind.i64.wrap 13 = 13 := by decide
      refine wp_loop_rounds 9 ?_
      rw [rounds_succ]
      refine wk_seq (fun K5 hK5 => ?_)
      refine wk_reg ?_
      refine pl_take (v := .bool true) rfl ?_ ?_
      · (go_simp; first | done | with_reducible rfl | rfl | omega | assumption | (simp; omega))
      (try simp only [Act.put, aP, aZ, aS])
      refine pl_done ?_
      refine hK5.out _ _ ?_
      (try clear hK5 K5)
      refine wk_seq (fun K6 hK6 => ?_)
      refine wp_cond_true rfl ?_
      refine wp_skip ?_
      refine hK6.out _ _ ?_
      (try clear hK6 K6)
      refine wk_seq (fun K7 hK7 => ?_)
      refine wp_block ?_
      refine wk_seq (fun K8 hK8 => ?_)
      refine wk_reg ?_
      iterate 2 (refine pl_take (v := ?_) rfl ?_ ?_; rotate_left; (· (go_simp; first | done | with_reducible rfl | rfl | omega | assumption | (simp; omega))); (try simp only [Act.put, aP, aZ, aS]))
      refine pl_done ?_
      refine hK8.out _ _ ?_
      (try clear hK8 K8)
      refine wk_seq (fun K9 hK9 => ?_)
      refine wk_reg ?_
      iterate 3 (refine pl_take (v := ?_) rfl ?_ ?_; rotate_left; (· (first | ((with_reducible apply yl_load); assumption; rfl; (repeat (first | with_reducible assumption | ((with_reducible apply Cl.own); exact rfl) | ((with_reducible apply Cl.blkL); exact rfl) | with_reducible apply Cl.cons)); rfl) | (go_simp; first | done | with_reducible rfl | rfl | omega | assumption | (simp; omega)))); (try simp only [Act.put, aP, aZ, aS]))
      refine pl_eff rfl (fun Kp hKp => ?_)
      go_simp
      ((refine (putn_spec (by omega) (by omega) (by assumption)).mono ?_); rintro e27 w27 ⟨A27, c27, rfl, hs27⟩)
      (try go_wp2_with fail)
      refine hKp.out _ _ ?_
      clear hKp Kp
      (try simp only [Act.put, aP, aZ, aS])
      iterate 5 (refine pl_take (v := ?_) rfl ?_ ?_; rotate_left; (· (go_simp; first | done | with_reducible rfl | rfl | omega | assumption | (simp; omega))); (try simp only [Act.put, aP, aZ, aS]))
      refine pl_done ?_
      refine hK9.out _ _ ?_
      (try clear hK9 K9)
      refine wk_reg ?_
      iterate 2 (refine pl_take (v := ?_) rfl ?_ ?_; rotate_left; (· (first | ((with_reducible apply yl_load); assumption; rfl; (repeat (first | with_reducible assumption | ((with_reducible apply Cl.own); exact rfl) | ((with_reducible apply Cl.blkL); exact rfl) | with_reducible apply Cl.cons)); rfl) | (go_simp; first | done | with_reducible rfl | rfl | omega | assumption | (simp; omega)))); (try simp only [Act.put, aP, aZ, aS]))
      refine pl_eff rfl (fun Kp hKp => ?_)
      ((with_reducible apply st_append); go_must (assumption; rfl; rfl; (repeat (first | with_reducible exact Out.here _ | apply Out.there)); (repeat (first | with_reducible assumption | with_reducible exact Rd.own | with_reducible exact Rd.nil | with_reducible apply Rd.cons)); (first | exact B8_one _ | exact I8_one _ | (simp [Value.oneCell'])); (first | omega | (simp only [maxLen]; omega)); omega; intro A32 c32 w32 hs32 hc32; (try ((refine hs32.own_elim ?_ ?_); omega; rintro g32 rfl)); try simp only [Nat.zero_add, List.nil_append] at hs32 hc32))
      refine hKp.out _ _ ?_
      clear hKp Kp
      (try simp only [Act.put, aP, aZ, aS])
      refine pl_eff rfl (fun Kp hKp => ?_)
      (first | ((with_reducible apply st_store1); assumption; rfl; (go_simp; rfl); (repeat (first | with_reducible exact Out.here _ | apply Out.there)); rfl; rfl; simp; intro wr7_3 hsr7_3; (try simp only [aP] at hsr7_3); (try simp only [aS] at hsr7_3); (try simp only [aZ] at hsr7_3)) | ((with_reducible apply st_store_own); assumption; rfl; (go_simp; rfl); (repeat (first | with_reducible exact Out.here _ | apply Out.there)); rfl; rfl; omega; intro wr7_3 hsr7_3))
      refine hKp.out _ _ ?_
      clear hKp Kp
      (try dsimp only [Act.put])
      refine pl_done ?_
      refine hK7.out _ _ ?_
      (try clear hK7 K7)
      refine wk_reg ?_
      iterate 2 (refine pl_take (v := ?_) rfl ?_ ?_; rotate_left; (· (go_simp; first | done | with_reducible rfl | rfl | omega | assumption | (simp; omega))); (try simp only [Act.put, aP, aZ, aS]))
      refine pl_done ?_
      show Code.rounds _ _ _ _ _ _
      rw [rounds_succ]
      refine wk_seq (fun K5 hK5 => ?_)
      refine wk_reg ?_
      refine pl_take (v := .bool true) rfl ?_ ?_
      · (go_simp; first | done | with_reducible rfl | rfl | omega | assumption | (simp; omega))
      (try simp only [Act.put, aP, aZ, aS])
      refine pl_done ?_
      refine hK5.out _ _ ?_
      (try clear hK5 K5)
      refine wk_seq (fun K6 hK6 => ?_)
      refine wp_cond_true rfl ?_
      refine wp_skip ?_
      refine hK6.out _ _ ?_
      (try clear hK6 K6)
      refine wk_seq (fun K7 hK7 => ?_)
      refine wp_block ?_
      refine wk_seq (fun K8 hK8 => ?_)
      refine wk_reg ?_
      iterate 2 (refine pl_take (v := ?_) rfl ?_ ?_; rotate_left; (· (go_simp; first | done | with_reducible rfl | rfl | omega | assumption | (simp; omega))); (try simp only [Act.put, aP, aZ, aS]))
      refine pl_done ?_
      refine hK8.out _ _ ?_
      (try clear hK8 K8)
      refine wk_seq (fun K9 hK9 => ?_)
      refine wk_reg ?_
      iterate 3 (refine pl_take (v := ?_) rfl ?_ ?_; rotate_left; (· (first | ((with_reducible apply yl_load); assumption; rfl; (repeat (first | with_reducible assumption | ((with_reducible apply Cl.own); exact rfl) | ((with_reducible apply Cl.blkL); exact rfl) | with_reducible apply Cl.cons)); rfl) | (go_simp; first | done | with_reducible rfl | rfl | omega | assumption | (simp; omega)))); (try simp only [Act.put, aP, aZ, aS]))
      refine pl_eff rfl (fun Kp hKp => ?_)
      go_simp
      ((refine (putn_spec (by omega) (by omega) (by assumption)).mono ?_); rintro e27 w27 ⟨A27, c27, rfl, hs27⟩)
      (try go_wp2_with fail)
      refine hKp.out _ _ ?_
      clear hKp Kp
      (try simp only [Act.put, aP, aZ, aS])
      iterate 5 (refine pl_take (v := ?_) rfl ?_ ?_; rotate_left; (· (go_simp; first | done | with_reducible rfl | rfl | omega | assumption | (simp; omega))); (try simp only [Act.put, aP, aZ, aS]))
      refine pl_done ?_
      refine hK9.out _ _ ?_
      (try clear hK9 K9)
      refine wk_reg ?_
      iterate 2 (refine pl_take (v := ?_) rfl ?_ ?_; rotate_left; (· (first | ((with_reducible apply yl_load); assumption; rfl; (repeat (first | with_reducible assumption | ((with_reducible apply Cl.own); exact rfl) | ((with_reducible apply Cl.blkL); exact rfl) | with_reducible apply Cl.cons)); rfl) | (go_simp; first | done | with_reducible rfl | rfl | omega | assumption | (simp; omega)))); (try simp only [Act.put, aP, aZ, aS]))
      refine pl_eff rfl (fun Kp hKp => ?_)
      ((with_reducible apply st_append); go_must (assumption; rfl; rfl; (repeat (first | with_reducible exact Out.here _ | apply Out.there)); (repeat (first | with_reducible assumption | with_reducible exact Rd.own | with_reducible exact Rd.nil | with_reducible apply Rd.cons)); (first | exact B8_one _ | exact I8_one _ | (simp [Value.oneCell'])); (first | omega | (simp only [maxLen]; omega)); omega; intro A32 c32 w32 hs32 hc32; (try ((refine hs32.own_elim ?_ ?_); omega; rintro g32 rfl)); try simp only [Nat.zero_add, List.nil_append] at hs32 hc32))
      refine hKp.out _ _ ?_
      clear hKp Kp
      (try simp only [Act.put, aP, aZ, aS])
      refine pl_eff rfl (fun Kp hKp => ?_)
      (first | ((with_reducible apply st_store1); assumption; rfl; (go_simp; rfl); (repeat (first | with_reducible exact Out.here _ | apply Out.there)); rfl; rfl; simp; intro wr7_3 hsr7_3; (try simp only [aP] at hsr7_3); (try simp only [aS] at hsr7_3); (try simp only [aZ] at hsr7_3)) | ((with_reducible apply st_store_own); assumption; rfl; (go_simp; rfl); (repeat (first | with_reducible exact Out.here _ | apply Out.there)); rfl; rfl; omega; intro wr7_3 hsr7_3))
      refine hKp.out _ _ ?_
      clear hKp Kp
      (try dsimp only [Act.put])
      refine pl_done ?_
      refine hK7.out _ _ ?_
      (try clear hK7 K7)
      refine wk_reg ?_
      iterate 2 (refine pl_take (v := ?_) rfl ?_ ?_; rotate_left; (· (go_simp; first | done | with_reducible rfl | rfl | omega | assumption | (simp; omega))); (try simp only [Act.put, aP, aZ, aS]))
      refine pl_done ?_
      show Code.rounds _ _ _ _ _ _
      rw [rounds_succ]
      refine wk_seq (fun K5 hK5 => ?_)
      refine wk_reg ?_
      refine pl_take (v := .bool true) rfl ?_ ?_
      · (go_simp; first | done | with_reducible rfl | rfl | omega | assumption | (simp; omega))
      (try simp only [Act.put, aP, aZ, aS])
      refine pl_done ?_
      refine hK5.out _ _ ?_
      (try clear hK5 K5)
      refine wk_seq (fun K6 hK6 => ?_)
      refine wp_cond_true rfl ?_
      refine wp_skip ?_
      refine hK6.out _ _ ?_
      (try clear hK6 K6)
      refine wk_seq (fun K7 hK7 => ?_)
      refine wp_block ?_
      refine wk_seq (fun K8 hK8 => ?_)
      refine wk_reg ?_
      iterate 2 (refine pl_take (v := ?_) rfl ?_ ?_; rotate_left; (· (go_simp; first | done | with_reducible rfl | rfl | omega | assumption | (simp; omega))); (try simp only [Act.put, aP, aZ, aS]))
      refine pl_done ?_
      refine hK8.out _ _ ?_
      (try clear hK8 K8)
      refine wk_seq (fun K9 hK9 => ?_)
      refine wk_reg ?_
      iterate 3 (refine pl_take (v := ?_) rfl ?_ ?_; rotate_left; (· (first | ((with_reducible apply yl_load); assumption; rfl; (repeat (first | with_reducible assumption | ((with_reducible apply Cl.own); exact rfl) | ((with_reducible apply Cl.blkL); exact rfl) | with_reducible apply Cl.cons)); rfl) | (go_simp; first | done | with_reducible rfl | rfl | omega | assumption | (simp; omega)))); (try simp only [Act.put, aP, aZ, aS]))
      refine pl_eff rfl (fun Kp hKp => ?_)
      go_simp
      ((refine (putn_spec (by omega) (by omega) (by assumption)).mono ?_); rintro e27 w27 ⟨A27, c27, rfl, hs27⟩)
      (try go_wp2_with fail)
      refine hKp.out _ _ ?_
      clear hKp Kp
      (try simp only [Act.put, aP, aZ, aS])
      iterate 5 (refine pl_take (v := ?_) rfl ?_ ?_; rotate_left; (· (go_simp; first | done | with_reducible rfl | rfl | omega | assumption | (simp; omega))); (try simp only [Act.put, aP, aZ, aS]))
      refine pl_done ?_
      refine hK9.out _ _ ?_
      (try clear hK9 K9)
      refine wk_reg ?_
      iterate 2 (refine pl_take (v := ?_) rfl ?_ ?_; rotate_left; (· (first | ((with_reducible apply yl_load); assumption; rfl; (repeat (first | with_reducible assumption | ((with_reducible apply Cl.own); exact rfl) | ((with_reducible apply Cl.blkL); exact rfl) | with_reducible apply Cl.cons)); rfl) | (go_simp; first | done | with_reducible rfl | rfl | omega | assumption | (simp; omega)))); (try simp only [Act.put, aP, aZ, aS]))
      refine pl_eff rfl (fun Kp hKp => ?_)
      ((with_reducible apply st_append); go_must (assumption; rfl; rfl; (repeat (first | with_reducible exact Out.here _ | apply Out.there)); (repeat (first | with_reducible assumption | with_reducible exact Rd.own | with_reducible exact Rd.nil | with_reducible apply Rd.cons)); (first | exact B8_one _ | exact I8_one _ | (simp [Value.oneCell'])); (first | omega | (simp only [maxLen]; omega)); omega; intro A32 c32 w32 hs32 hc32; (try ((refine hs32.own_elim ?_ ?_); omega; rintro g32 rfl)); try simp only [Nat.zero_add, List.nil_append] at hs32 hc32))
      refine hKp.out _ _ ?_
      clear hKp Kp
      (try simp only [Act.put, aP, aZ, aS])
      refine pl_eff rfl (fun Kp hKp => ?_)
      (first | ((with_reducible apply st_store1); assumption; rfl; (go_simp; rfl); (repeat (first | with_reducible exact Out.here _ | apply Out.there)); rfl; rfl; simp; intro wr7_3 hsr7_3; (try simp only [aP] at hsr7_3); (try simp only [aS] at hsr7_3); (try simp only [aZ] at hsr7_3)) | ((with_reducible apply st_store_own); assumption; rfl; (go_simp; rfl); (repeat (first | with_reducible exact Out.here _ | apply Out.there)); rfl; rfl; omega; intro wr7_3 hsr7_3))
      refine hKp.out _ _ ?_
      clear hKp Kp
      (try dsimp only [Act.put])
      refine pl_done ?_
      refine hK7.out _ _ ?_
      (try clear hK7 K7)
      refine wk_reg ?_
      iterate 2 (refine pl_take (v := ?_) rfl ?_ ?_; rotate_left; (· (go_simp; first | done | with_reducible rfl | rfl | omega | assumption | (simp; omega))); (try simp only [Act.put, aP, aZ, aS]))
      refine pl_done ?_
      show Code.rounds _ _ _ _ _ _
      rw [rounds_succ]
      refine wk_seq (fun K5 hK5 => ?_)
      refine wk_reg ?_
      refine pl_take (v := .bool true) rfl ?_ ?_
      · (go_simp; first | done | with_reducible rfl | rfl | omega | assumption | (simp; omega))
      (try simp only [Act.put, aP, aZ, aS])
      refine pl_done ?_
      refine hK5.out _ _ ?_
      (try clear hK5 K5)
      refine wk_seq (fun K6 hK6 => ?_)
      refine wp_cond_true rfl ?_
      refine wp_skip ?_
      refine hK6.out _ _ ?_
      (try clear hK6 K6)
      refine wk_seq (fun K7 hK7 => ?_)
      refine wp_block ?_
      refine wk_seq (fun K8 hK8 => ?_)
      refine wk_reg ?_
      iterate 2 (refine pl_take (v := ?_) rfl ?_ ?_; rotate_left; (· (go_simp; first | done | with_reducible rfl | rfl | omega | assumption | (simp; omega))); (try simp only [Act.put, aP, aZ, aS]))
      refine pl_done ?_
      refine hK8.out _ _ ?_
      (try clear hK8 K8)
      refine wk_seq (fun K9 hK9 => ?_)
      refine wk_reg ?_
      iterate 3 (refine pl_take (v := ?_) rfl ?_ ?_; rotate_left; (· (first | ((with_reducible apply yl_load); assumption; rfl; (repeat (first | with_reducible assumption | ((with_reducible apply Cl.own); exact rfl) | ((with_reducible apply Cl.blkL); exact rfl) | with_reducible apply Cl.cons)); rfl) | (go_simp; first | done | with_reducible rfl | rfl | omega | assumption | (simp; omega)))); (try simp only [Act.put, aP, aZ, aS]))
      refine pl_eff rfl (fun Kp hKp => ?_)
      go_simp
      ((refine (putn_spec (by omega) (by omega) (by assumption)).mono ?_); rintro e27 w27 ⟨A27, c27, rfl, hs27⟩)
      (try go_wp2_with fail)
      refine hKp.out _ _ ?_
      clear hKp Kp
      (try simp only [Act.put, aP, aZ, aS])
      iterate 5 (refine pl_take (v := ?_) rfl ?_ ?_; rotate_left; (· (go_simp; first | done | with_reducible rfl | rfl | omega | assumption | (simp; omega))); (try simp only [Act.put, aP, aZ, aS]))
      refine pl_done ?_
      refine hK9.out _ _ ?_
      (try clear hK9 K9)
      refine wk_reg ?_
      iterate 2 (refine pl_take (v := ?_) rfl ?_ ?_; rotate_left; (· (first | ((with_reducible apply yl_load); assumption; rfl; (repeat (first | with_reducible assumption | ((with_reducible apply Cl.own); exact rfl) | ((with_reducible apply Cl.blkL); exact rfl) | with_reducible apply Cl.cons)); rfl) | (go_simp; first | done | with_reducible rfl | rfl | omega | assumption | (simp; omega)))); (try simp only [Act.put, aP, aZ, aS]))
      refine pl_eff rfl (fun Kp hKp => ?_)
      ((with_reducible apply st_append); go_must (assumption; rfl; rfl; (repeat (first | with_reducible exact Out.here _ | apply Out.there)); (repeat (first | with_reducible assumption | with_reducible exact Rd.own | with_reducible exact Rd.nil | with_reducible apply Rd.cons)); (first | exact B8_one _ | exact I8_one _ | (simp [Value.oneCell'])); (first | omega | (simp only [maxLen]; omega)); omega; intro A32 c32 w32 hs32 hc32; (try ((refine hs32.own_elim ?_ ?_); omega; rintro g32 rfl)); try simp only [Nat.zero_add, List.nil_append] at hs32 hc32))
      refine hKp.out _ _ ?_
      clear hKp Kp
      (try simp only [Act.put, aP, aZ, aS])
      refine pl_eff rfl (fun Kp hKp => ?_)
      (first | ((with_reducible apply st_store1); assumption; rfl; (go_simp; rfl); (repeat (first | with_reducible exact Out.here _ | apply Out.there)); rfl; rfl; simp; intro wr7_3 hsr7_3; (try simp only [aP] at hsr7_3); (try simp only [aS] at hsr7_3); (try simp only [aZ] at hsr7_3)) | ((with_reducible apply st_store_own); assumption; rfl; (go_simp; rfl); (repeat (first | with_reducible exact Out.here _ | apply Out.there)); rfl; rfl; omega; intro wr7_3 hsr7_3))
      refine hKp.out _ _ ?_
      clear hKp Kp
      (try dsimp only [Act.put])
      refine pl_done ?_
      refine hK7.out _ _ ?_
      (try clear hK7 K7)
      refine wk_reg ?_
      iterate 2 (refine pl_take (v := ?_) rfl ?_ ?_; rotate_left; (· (go_simp; first | done | with_reducible rfl | rfl | omega | assumption | (simp; omega))); (try simp only [Act.put, aP, aZ, aS]))
      refine pl_done ?_
      show Code.rounds _ _ _ _ _ _
      rw [rounds_succ]
      refine wk_seq (fun K5 hK5 => ?_)
      refine wk_reg ?_
      refine pl_take (v := .bool true) rfl ?_ ?_
      · (go_simp; first | done | with_reducible rfl | rfl | omega | assumption | (simp; omega))
      (try simp only [Act.put, aP, aZ, aS])
      refine pl_done ?_
      refine hK5.out _ _ ?_
      (try clear hK5 K5)
      refine wk_seq (fun K6 hK6 => ?_)
      refine wp_cond_true rfl ?_
      refine wp_skip ?_
      refine hK6.out _ _ ?_
      (try clear hK6 K6)
      refine wk_seq (fun K7 hK7 => ?_)
      refine wp_block ?_
      refine wk_seq (fun K8 hK8 => ?_)
      refine wk_reg ?_
      iterate 2 (refine pl_take (v := ?_) rfl ?_ ?_; rotate_left; (· (go_simp; first | done | with_reducible rfl | rfl | omega | assumption | (simp; omega))); (try simp only [Act.put, aP, aZ, aS]))
      refine pl_done ?_
      refine hK8.out _ _ ?_
      (try clear hK8 K8)
      refine wk_seq (fun K9 hK9 => ?_)
      refine wk_reg ?_
      iterate 3 (refine pl_take (v := ?_) rfl ?_ ?_; rotate_left; (· (first | ((with_reducible apply yl_load); assumption; rfl; (repeat (first | with_reducible assumption | ((with_reducible apply Cl.own); exact rfl) | ((with_reducible apply Cl.blkL); exact rfl) | with_reducible apply Cl.cons)); rfl) | (go_simp; first | done | with_reducible rfl | rfl | omega | assumption | (simp; omega)))); (try simp only [Act.put, aP, aZ, aS]))
      refine pl_eff rfl (fun Kp hKp => ?_)
      go_simp
      ((refine (putn_spec (by omega) (by omega) (by assumption)).mono ?_); rintro e27 w27 ⟨A27, c27, rfl, hs27⟩)
      (try go_wp2_with fail)
      refine hKp.out _ _ ?_
      clear hKp Kp
      (try simp only [Act.put, aP, aZ, aS])
      iterate 5 (refine pl_take (v := ?_) rfl ?_ ?_; rotate_left; (· (go_simp; first | done | with_reducible rfl | rfl | omega | assumption | (simp; omega))); (try simp only [Act.put, aP, aZ, aS]))
      refine pl_done ?_
      refine hK9.out _ _ ?_
      (try clear hK9 K9)
      refine wk_reg ?_
      iterate 2 (refine pl_take (v := ?_) rfl ?_ ?_; rotate_left; (· (first | ((with_reducible apply yl_load); assumption; rfl; (repeat (first | with_reducible assumption | ((with_reducible apply Cl.own); exact rfl) | ((with_reducible apply Cl.blkL); exact rfl) | with_reducible apply Cl.cons)); rfl) | (go_simp; first | done | with_reducible rfl | rfl | omega | assumption | (simp; omega)))); (try simp only [Act.put, aP, aZ, aS]))
      refine pl_eff rfl (fun Kp hKp => ?_)
      ((with_reducible apply st_append); go_must (assumption; rfl; rfl; (repeat (first | with_reducible exact Out.here _ | apply Out.there)); (repeat (first | with_reducible assumption | with_reducible exact Rd.own | with_reducible exact Rd.nil | with_reducible apply Rd.cons)); (first | exact B8_one _ | exact I8_one _ | (simp [Value.oneCell'])); (first | omega | (simp only [maxLen]; omega)); omega; intro A32 c32 w32 hs32 hc32; (try ((refine hs32.own_elim ?_ ?_); omega; rintro g32 rfl)); try simp only [Nat.zero_add, List.nil_append] at hs32 hc32))
      refine hKp.out _ _ ?_
      clear hKp Kp
      (try simp only [Act.put, aP, aZ, aS])
      refine pl_eff rfl (fun Kp hKp => ?_)
      (first | ((with_reducible apply st_store1); assumption; rfl; (go_simp; rfl); (repeat (first | with_reducible exact Out.here _ | apply Out.there)); rfl; rfl; simp; intro wr7_3 hsr7_3; (try simp only [aP] at hsr7_3); (try simp only [aS] at hsr7_3); (try simp only [aZ] at hsr7_3)) | ((with_reducible apply st_store_own); assumption; rfl; (go_simp; rfl); (repeat (first | with_reducible exact Out.here _ | apply Out.there)); rfl; rfl; omega; intro wr7_3 hsr7_3))
      refine hKp.out _ _ ?_
      clear hKp Kp
      (try dsimp only [Act.put])
      refine pl_done ?_
      refine hK7.out _ _ ?_
      (try clear hK7 K7)
      refine wk_reg ?_
      iterate 2 (refine pl_take (v := ?_) rfl ?_ ?_; rotate_left; (· (go_simp; first | done | with_reducible rfl | rfl | omega | assumption | (simp; omega))); (try simp only [Act.put, aP, aZ, aS]))
      refine pl_done ?_
      show Code.rounds _ _ _ _ _ _
      rw [rounds_succ]
      refine wk_seq (fun K5 hK5 => ?_)
      refine wk_reg ?_
      refine pl_take (v := .bool true) rfl ?_ ?_
      · (go_simp; first | done | with_reducible rfl | rfl | omega | assumption | (simp; omega))
      (try simp only [Act.put, aP, aZ, aS])
      refine pl_done ?_
      refine hK5.out _ _ ?_
      (try clear hK5 K5)
      refine wk_seq (fun K6 hK6 => ?_)
      refine wp_cond_true rfl ?_
      refine wp_skip ?_
      refine hK6.out _ _ ?_
      (try clear hK6 K6)
      refine wk_seq (fun K7 hK7 => ?_)
      refine wp_block ?_
      refine wk_seq (fun K8 hK8 => ?_)
      refine wk_reg ?_
      iterate 2 (refine pl_take (v := ?_) rfl ?_ ?_; rotate_left; (· (go_simp; first | done | with_reducible rfl | rfl | omega | assumption | (simp; omega))); (try simp only [Act.put, aP, aZ, aS]))
      refine pl_done ?_
      refine hK8.out _ _ ?_
      (try clear hK8 K8)
      refine wk_seq (fun K9 hK9 => ?_)
      refine wk_reg ?_
      iterate 3 (refine pl_take (v := ?_) rfl ?_ ?_; rotate_left; (· (first | ((with_reducible apply yl_load); assumption; rfl; (repeat (first | with_reducible assumption | ((with_reducible apply Cl.own); exact rfl) | ((with_reducible apply Cl.blkL); exact rfl) | with_reducible apply Cl.cons)); rfl) | (go_simp; first | done | with_reducible rfl | rfl | omega | assumption | (simp; omega)))); (try simp only [Act.put, aP, aZ, aS]))
      refine pl_eff rfl (fun Kp hKp => ?_)
      go_simp
      ((refine (putn_spec (by omega) (by omega) (by assumption)).mono ?_); rintro e27 w27 ⟨A27, c27, rfl, hs27⟩)
      (try go_wp2_with fail)
      refine hKp.out _ _ ?_
      clear hKp Kp
      (try simp only [Act.put, aP, aZ, aS])
      iterate 5 (refine pl_take (v := ?_) rfl ?_ ?_; rotate_left; (· (go_simp; first | done | with_reducible rfl | rfl | omega | assumption | (simp; omega))); (try simp only [Act.put, aP, aZ, aS]))
      refine pl_done ?_
      refine hK9.out _ _ ?_
      (try clear hK9 K9)
      refine wk_reg ?_
      iterate 2 (refine pl_take (v := ?_) rfl ?_ ?_; rotate_left; (· (first | ((with_reducible apply yl_load); assumption; rfl; (repeat (first | with_reducible assumption | ((with_reducible apply Cl.own); exact rfl) | ((with_reducible apply Cl.blkL); exact rfl) | with_reducible apply Cl.cons)); rfl) | (go_simp; first | done | with_reducible rfl | rfl | omega | assumption | (simp; omega)))); (try simp only [Act.put, aP, aZ, aS]))
      refine pl_eff rfl (fun Kp hKp => ?_)
      ((with_reducible apply st_append); go_must (assumption; rfl; rfl; (repeat (first | with_reducible exact Out.here _ | apply Out.there)); (repeat (first | with_reducible assumption | with_reducible exact Rd.own | with_reducible exact Rd.nil | with_reducible apply Rd.cons)); (first | exact B8_one _ | exact I8_one _ | (simp [Value.oneCell'])); (first | omega | (simp only [maxLen]; omega)); omega; intro A32 c32 w32 hs32 hc32; (try ((refine hs32.own_elim ?_ ?_); omega; rintro g32 rfl)); try simp only [Nat.zero_add, List.nil_append] at hs32 hc32))
      refine hKp.out _ _ ?_
      clear hKp Kp
      (try simp only [Act.put, aP, aZ, aS])
      refine pl_eff rfl (fun Kp hKp => ?_)
      (first | ((with_reducible apply st_store1); assumption; rfl; (go_simp; rfl); (repeat (first | with_reducible exact Out.here _ | apply Out.there)); rfl; rfl; simp; intro wr7_3 hsr7_3; (try simp only [aP] at hsr7_3); (try simp only [aS] at hsr7_3); (try simp only [aZ] at hsr7_3)) | ((with_reducible apply st_store_own); assumption; rfl; (go_simp; rfl); (repeat (first | with_reducible exact Out.here _ | apply Out.there)); rfl; rfl; omega; intro wr7_3 hsr7_3))
      refine hKp.out _ _ ?_
      clear hKp Kp
      (try dsimp only [Act.put])
      refine pl_done ?_
      refine hK7.out _ _ ?_
      (try clear hK7 K7)
      refine wk_reg ?_
      iterate 2 (refine pl_take (v := ?_) rfl ?_ ?_; rotate_left; (· (go_simp; first | done | with_reducible rfl | rfl | omega | assumption | (simp; omega))); (try simp only [Act.put, aP, aZ, aS]))
      refine pl_done ?_
      show Code.rounds _ _ _ _ _ _
      rw [rounds_succ]
      refine wk_seq (fun K5 hK5 => ?_)
      refine wk_reg ?_
      refine pl_take (v := .bool true) rfl ?_ ?_
      · (go_simp; first | done | with_reducible rfl | rfl | omega | assumption | (simp; omega))
      (try simp only [Act.put, aP, aZ, aS])
      refine pl_done ?_
      refine hK5.out _ _ ?_
      (try clear hK5 K5)
      refine wk_seq (fun K6 hK6 => ?_)
      refine wp_cond_true rfl ?_
      refine wp_skip ?_
      refine hK6.out _ _ ?_
      (try clear hK6 K6)
      refine wk_seq (fun K7 hK7 => ?_)
      refine wp_block ?_
      refine wk_seq (fun K8 hK8 => ?_)
      refine wk_reg ?_
      iterate 2 (refine pl_take (v := ?_) rfl ?_ ?_; rotate_left; (· (go_simp; first | done | with_reducible rfl | rfl | omega | assumption | (simp; omega))); (try simp only [Act.put, aP, aZ, aS]))
      refine pl_done ?_
      refine hK8.out _ _ ?_
      (try clear hK8 K8)
      refine wk_seq (fun K9 hK9 => ?_)
      refine wk_reg ?_
      iterate 3 (refine pl_take (v := ?_) rfl ?_ ?_; rotate_left; (· (first | ((with_reducible apply yl_load); assumption; rfl; (repeat (first | with_reducible assumption | ((with_reducible apply Cl.own); exact rfl) | ((with_reducible apply Cl.blkL); exact rfl) | with_reducible apply Cl.cons)); rfl) | (go_simp; first | done | with_reducible rfl | rfl | omega | assumption | (simp; omega)))); (try simp only [Act.put, aP, aZ, aS]))
      refine pl_eff rfl (fun Kp hKp => ?_)
      go_simp
      ((refine (putn_spec (by omega) (by omega) (by assumption)).mono ?_); rintro e27 w27 ⟨A27, c27, rfl, hs27⟩)
      (try go_wp2_with fail)
      refine hKp.out _ _ ?_
      clear hKp Kp
      (try simp only [Act.put, aP, aZ, aS])
      iterate 5 (refine pl_take (v := ?_) rfl ?_ ?_; rotate_left; (· (go_simp; first | done | with_reducible rfl | rfl | omega | assumption | (simp; omega))); (try simp only [Act.put, aP, aZ, aS]))
      refine pl_done ?_
      refine hK9.out _ _ ?_
      (try clear hK9 K9)
      refine wk_reg ?_
      iterate 2 (refine pl_take (v := ?_) rfl ?_ ?_; rotate_left; (· (first | ((with_reducible apply yl_load); assumption; rfl; (repeat (first | with_reducible assumption | ((with_reducible apply Cl.own); exact rfl) | ((with_reducible apply Cl.blkL); exact rfl) | with_reducible apply Cl.cons)); rfl) | (go_simp; first | done | with_reducible rfl | rfl | omega | assumption | (simp; omega)))); (try simp only [Act.put, aP, aZ, aS]))
      refine pl_eff rfl (fun Kp hKp => ?_)
      ((with_reducible apply st_append); go_must (assumption; rfl; rfl; (repeat (first | with_reducible exact Out.here _ | apply Out.there)); (repeat (first | with_reducible assumption | with_reducible exact Rd.own | with_reducible exact Rd.nil | with_reducible apply Rd.cons)); (first | exact B8_one _ | exact I8_one _ | (simp [Value.oneCell'])); (first | omega | (simp only [maxLen]; omega)); omega; intro A32 c32 w32 hs32 hc32; (try ((refine hs32.own_elim ?_ ?_); omega; rintro g32 rfl)); try simp only [Nat.zero_add, List.nil_append] at hs32 hc32))
      refine hKp.out _ _ ?_
      clear hKp Kp
      (try simp only [Act.put, aP, aZ, aS])
      refine pl_eff rfl (fun Kp hKp => ?_)
      (first | ((with_reducible apply st_store1); assumption; rfl; (go_simp; rfl); (repeat (first | with_reducible exact Out.here _ | apply Out.there)); rfl; rfl; simp; intro wr7_3 hsr7_3; (try simp only [aP] at hsr7_3); (try simp only [aS] at hsr7_3); (try simp only [aZ] at hsr7_3)) | ((with_reducible apply st_store_own); assumption; rfl; (go_simp; rfl); (repeat (first | with_reducible exact Out.here _ | apply Out.there)); rfl; rfl; omega; intro wr7_3 hsr7_3))
      refine hKp.out _ _ ?_
      clear hKp Kp
      (try dsimp only [Act.put])
      refine pl_done ?_
      refine hK7.out _ _ ?_
      (try clear hK7 K7)
      refine wk_reg ?_
      iterate 2 (refine pl_take (v := ?_) rfl ?_ ?_; rotate_left; (· (go_simp; first | done | with_reducible rfl | rfl | omega | assumption | (simp; omega))); (try simp only [Act.put, aP, aZ, aS]))
      refine pl_done ?_
      show Code.rounds _ _ _ _ _ _
      rw [rounds_succ]
      refine wk_seq (fun K5 hK5 => ?_)
      refine wk_reg ?_
      refine pl_take (v := .bool true) rfl ?_ ?_
      · (go_simp; first | done | with_reducible rfl | rfl | omega | assumption | (simp; omega))
      (try simp only [Act.put, aP, aZ, aS])
      refine pl_done ?_
      refine hK5.out _ _ ?_
      (try clear hK5 K5)
      refine wk_seq (fun K6 hK6 => ?_)
      refine wp_cond_true rfl ?_
      refine wp_skip ?_
      refine hK6.out _ _ ?_
      (try clear hK6 K6)
      refine wk_seq (fun K7 hK7 => ?_)
      refine wp_block ?_
      refine wk_seq (fun K8 hK8 => ?_)
      refine wk_reg ?_
      iterate 2 (refine pl_take (v := ?_) rfl ?_ ?_; rotate_left; (· (go_simp; first | done | with_reducible rfl | rfl | omega | assumption | (simp; omega))); (try simp only [Act.put, aP, aZ, aS]))
      refine pl_done ?_
      refine hK8.out _ _ ?_
      (try clear hK8 K8)
      refine wk_seq (fun K9 hK9 => ?_)
      refine wk_reg ?_
      iterate 3 (refine pl_take (v := ?_) rfl ?_ ?_; rotate_left; (· (first | ((with_reducible apply yl_load); assumption; rfl; (repeat (first | with_reducible assumption | ((with_reducible apply Cl.own); exact rfl) | ((with_reducible apply Cl.blkL); exact rfl) | with_reducible apply Cl.cons)); rfl) | (go_simp; first | done | with_reducible rfl | rfl | omega | assumption | (simp; omega)))); (try simp only [Act.put, aP, aZ, aS]))
      refine pl_eff rfl (fun Kp hKp => ?_)
      go_simp
      ((refine (putn_spec (by omega) (by omega) (by assumption)).mono ?_); rintro e27 w27 ⟨A27, c27, rfl, hs27⟩)
      (try go_wp2_with fail)
      refine hKp.out _ _ ?_
      clear hKp Kp
      (try simp only [Act.put, aP, aZ, aS])
      iterate 5 (refine pl_take (v := ?_) rfl ?_ ?_; rotate_left; (· (go_simp; first | done | with_reducible rfl | rfl | omega | assumption | (simp; omega))); (try simp only [Act.put, aP, aZ, aS]))
      refine pl_done ?_
      refine hK9.out _ _ ?_
      (try clear hK9 K9)
      refine wk_reg ?_
      iterate 2 (refine pl_take (v := ?_) rfl ?_ ?_; rotate_left; (· (first | ((with_reducible apply yl_load); assumption; rfl; (repeat (first | with_reducible assumption | ((with_reducible apply Cl.own); exact rfl) | ((with_reducible apply Cl.blkL); exact rfl) | with_reducible apply Cl.cons)); rfl) | (go_simp; first | done | with_reducible rfl | rfl | omega | assumption | (simp; omega)))); (try simp only [Act.put, aP, aZ, aS]))
      refine pl_eff rfl (fun Kp hKp => ?_)
      ((with_reducible apply st_append); go_must (assumption; rfl; rfl; (repeat (first | with_reducible exact Out.here _ | apply Out.there)); (repeat (first | with_reducible assumption | with_reducible exact Rd.own | with_reducible exact Rd.nil | with_reducible apply Rd.cons)); (first | exact B8_one _ | exact I8_one _ | (simp [Value.oneCell'])); (first | omega | (simp only [maxLen]; omega)); omega; intro A32 c32 w32 hs32 hc32; (try ((refine hs32.own_elim ?_ ?_); omega; rintro g32 rfl)); try simp only [Nat.zero_add, List.nil_append] at hs32 hc32))
      refine hKp.out _ _ ?_
      clear hKp Kp
      (try simp only [Act.put, aP, aZ, aS])
      refine pl_eff rfl (fun Kp hKp => ?_)
      (first | ((with_reducible apply st_store1); assumption; rfl; (go_simp; rfl); (repeat (first | with_reducible exact Out.here _ | apply Out.there)); rfl; rfl; simp; intro wr7_3 hsr7_3; (try simp only [aP] at hsr7_3); (try simp only [aS] at hsr7_3); (try simp only [aZ] at hsr7_3)) | ((with_reducible apply st_store_own); assumption; rfl; (go_simp; rfl); (repeat (first | with_reducible exact Out.here _ | apply Out.there)); rfl; rfl; omega; intro wr7_3 hsr7_3))
      refine hKp.out _ _ ?_
      clear hKp Kp
      (try dsimp only [Act.put])
      refine pl_done ?_
      refine hK7.out _ _ ?_
      (try clear hK7 K7)
      refine wk_reg ?_
      iterate 2 (refine pl_take (v := ?_) rfl ?_ ?_; rotate_left; (· (go_simp; first | done | with_reducible rfl | rfl | omega | assumption | (simp; omega))); (try simp only [Act.put, aP, aZ, aS]))
      refine pl_done ?_
      show Code.rounds _ _ _ _ _ _
      rw [rounds_succ]
      refine wk_seq (fun K5 hK5 => ?_)
      refine wk_reg ?_
      refine pl_take (v := .bool false) rfl ?_ ?_
      · (go_simp; first | done | with_reducible rfl | rfl | omega | assumption | (simp; omega))
      (try simp only [Act.put, aP, aZ, aS])
      refine pl_done ?_
      refine hK5.out _ _ ?_
      (try clear hK5 K5)
      refine wk_seq (fun K6 hK6 => ?_)
      refine wp_cond_false rfl ?_
      refine wp_exit ?_
      refine (by assumption : ∀ a' w', Met _ a' w' → _) _ _ ?_
      go_meet
      case rel =>
        obtain rfl : acc = num kd.toNat ++ num fr.toNat ++ num dn.toNat ++ num tm.toNat ++ num na.toNat ++ num nb.toNat ++ num nc.toNat ++ num nd.toNat := by rw [Hacc.out]; simp [catNums]
        exact ⟨_, _, hsr7_3.pick (by simp only [List.length_append, B8_app]; (repeat (first | exact Pick.nil _ | exact Pick.tail _ | exact Out.here _ | apply Out.there | apply Pick.cons | apply Pick.drop)))⟩
    case rest =>
      obtain ⟨A1, c1, hsA⟩ := hcut
      clear hs0 hs1 hs2 hs3 hs18 l0 l1 l2 l3 l4 l5 l6 l7 hR
      refine hK3.out _ _ ?_
      clear hK3 K3
      refine wk_seq (fun K10 hK10 => ?_)
      refine wk_reg ?_
      refine pl_eff rfl (fun Kp hKp => ?_)
      ((with_reducible apply st_buildSlice); assumption; rfl; (go_simp; rfl); (simp [Value.cells]); omega; intro b34 w34 hs34)
      refine hKp.out _ _ ?_
      clear hKp Kp
      (try simp only [Act.put, aP, aZ, aS])
      refine pl_take (v := ?_) rfl ?_ ?_
      rotate_left
      · (go_simp; first | done | with_reducible rfl | rfl | omega | assumption | (simp; omega))
      (try simp only [Act.put, aP, aZ, aS])
      refine pl_done ?_
      refine hK10.out _ _ ?_
      (try clear hK10 K10)
      refine wk_seq (fun K11 hK11 => ?_)
      -- at a cut
      obtain ⟨zy, hzy⟩ : ∃ zy, zy = yesBytes yes := ⟨_, rfl⟩
      have Hzy := Hid.mk' hzy
      have hzyl : zy.length ≤ 2 := by rw [hzy]; cases yes <;> simp [yes_false, yes_true]
      clear hzy
      go_cut [8] from 34 to 37 (fun s8 w => ∃ A8 c8, s8 = .slice A8 zy.length c8 ∧ Sat w0 w (own 5 1 A8 c8 zy.length (B8 zy) :: blk b2 (.cells #[.slice A1 acc.length c1] 24 (0, 0)) :: own 5 1 A1 c1 acc.length (B8 acc) :: blk b3 (.cells #[.int .i64 0] 29 (0, 0)) :: blk b1 (.cells #[.int .i64 kd, .int .i64 fr, .int .i64 dn, .int .i64 tm, .int .i64 na, .int .i64 nb, .int .i64 nc, .int .i64 nd, .bool yes, .slice A es.length ca, .slice B sv.length cb, .slice C dt.length cc] 27 (0, 0)) :: L))
      case first =>
        cases yes with
        | false =>
          obtain rfl : zy = [0] := by rw [Hzy.out]; exact yes_false
          refine wk_seq (fun K12 hK12 => ?_)
          refine wk_reg ?_
          refine pl_take (v := ?_) rfl ?_ ?_
          rotate_left
          · (go_simp; first | done | with_reducible rfl | rfl | omega | assumption | (simp; omega))
          (try simp only [Act.put, aP, aZ, aS])
          refine pl_take (v := .bool false) rfl ?_ ?_
          · ((with_reducible apply yl_load); assumption; rfl; (repeat (first | with_reducible assumption | ((with_reducible apply Cl.own); exact rfl) | ((with_reducible apply Cl.blkL); exact rfl) | with_reducible apply Cl.cons)); rfl)
          (try simp only [Act.put, aP, aZ, aS])
          refine pl_done ?_
          refine hK12.out _ _ ?_
          (try clear hK12 K12)
          refine wp_cond_false rfl ?_
          refine wp_skip ?_
          refine (by assumption : ∀ a' w', Met _ a' w' → _) _ _ ?_
          go_meet
          case rel => exact ⟨_, _, rfl, hs34.pick (by (repeat (first | exact Pick.nil _ | exact Pick.tail _ | exact Out.here _ | apply Out.there | apply Pick.cons | apply Pick.drop)))⟩
        | true =>
          obtain rfl : zy = [1, 1] := by rw [Hzy.out]; exact yes_true
          refine wk_seq (fun K12 hK12 => ?_)
          refine wk_reg ?_
          refine pl_take (v := ?_) rfl ?_ ?_
          rotate_left
          · (go_simp; first | done | with_reducible rfl | rfl | omega | assumption | (simp; omega))
          (try simp only [Act.put, aP, aZ, aS])
          refine pl_take (v := .bool true) rfl ?_ ?_
          · ((with_reducible apply yl_load); assumption; rfl; (repeat (first | with_reducible assumption | ((with_reducible apply Cl.own); exact rfl) | ((with_reducible apply Cl.blkL); exact rfl) | with_reducible apply Cl.cons)); rfl)
          (try simp only [Act.put, aP, aZ, aS])
          refine pl_done ?_
          refine hK12.out _ _ ?_
          (try clear hK12 K12)
          refine wp_cond_true rfl ?_
          refine wk_reg ?_
          refine pl_eff rfl (fun Kp hKp => ?_)
          ((with_reducible apply st_buildSlice); assumption; rfl; (go_simp; rfl); (simp [Value.cells]); omega; intro b37 w37 hs37)
          refine hKp.out _ _ ?_
          clear hKp Kp
          (try simp only [Act.put, aP, aZ, aS])
          refine pl_take (v := ?_) rfl ?_ ?_
          rotate_left
          · (go_simp; first | done | with_reducible rfl | rfl | omega | assumption | (simp; omega))
          (try simp only [Act.put, aP, aZ, aS])
          refine pl_done ?_
          refine (by assumption : ∀ a' w', Met _ a' w' → _) _ _ ?_
          go_meet
          case rel => exact ⟨_, _, rfl, hs37.pick (by (repeat (first | exact Pick.nil _ | exact Pick.tail _ | exact Out.here _ | apply Out.there | apply Pick.cons | apply Pick.drop)))⟩
      case rest =>
        obtain ⟨A8, c8, rfl, hsB⟩ := hcut
        clear hs34 hsA
        have HXb : Hid (X = if rightM ⟨kd, fr, dn, tm, na, nb, nc, nd, yes, es, sv, dt⟩ = true then (acc ++ zy ++ msgTail ⟨kd, fr, dn, tm, na, nb, nc, nd, yes, es, sv, dt⟩, 0) else ([], 1)) := by
          unfold Hid; rw [← HX.out, Hacc.out, Hzy.out]; rfl
        have Hrm := Hid.mk' (rightM_iff (m := ⟨kd, fr, dn, tm, na, nb, nc, nd, yes, es, sv, dt⟩))
        have HRt : Hid (rightP ⟨kd, fr, dn, tm, na, nb, nc, nd, yes, es, sv, dt⟩ = true) := Hβ.out
        by_cases k3 : kd = 3
        · subst k3
          obtain ⟨A', ca', vs, he1, hRv, hvl, hel⟩ := hE
          simp only [List.cons.injEq, Value.slice.injEq, and_true, true_and] at he1
          obtain ⟨rfl, rfl⟩ := he1
          have ez : (if (3 : Int) = 5 then 1 else 0) = 0 := rfl
          have ln := num_len6 es.length (by omega)
          have h53 : ¬ (3 : Int) = 5 := by omega
          have HXc : Hid (es.all rightE = true → X = (acc ++ zy ++ (num es.length ++ catEnts es), 0)) := fun ha => by
            rw [HXb.out, if_pos (Hrm.out.2 ⟨HRt.out, ha, fun h => absurd h h53⟩)]; rfl
          have HXd : Hid (es.all rightE = false → X = ([], 1)) := fun ha => by
            rw [HXb.out, if_neg]; intro h; have := (Hrm.out.1 h).2.1; simp only at this; rw [ha] at this; cases this
          clear ez HXb Hrm HRt HX
          refine hK11.out _ _ ?_
          clear hK11 K11
          refine wk_seq (fun K13 hK13 => ?_)
          refine wk_reg ?_
          iterate 2 (refine pl_take (v := ?_) rfl ?_ ?_; rotate_left; (· (first | ((with_reducible apply yl_load); assumption; rfl; (repeat (first | with_reducible assumption | ((with_reducible apply Cl.own); exact rfl) | ((with_reducible apply Cl.blkL); exact rfl) | with_reducible apply Cl.cons)); rfl) | (go_simp; first | done | with_reducible rfl | rfl | omega | assumption | (simp; omega)))); (try simp only [Act.put, aP, aZ, aS]))
          refine pl_eff rfl (fun Kp hKp => ?_)
          ((with_reducible apply st_append); go_must (assumption; rfl; rfl; (repeat (first | with_reducible exact Out.here _ | apply Out.there)); (repeat (first | with_reducible assumption | with_reducible exact Rd.own | with_reducible exact Rd.nil | with_reducible apply Rd.cons)); (first | exact B8_one _ | exact I8_one _ | (simp [Value.oneCell'])); (first | omega | (simp only [maxLen]; omega)); omega; intro A40 c40 w40 hs40 hc40; (try ((refine hs40.own_elim ?_ ?_); omega; rintro g40 rfl)); try simp only [Nat.zero_add, List.nil_append] at hs40 hc40))
          refine hKp.out _ _ ?_
          clear hKp Kp
          (try simp only [Act.put, aP, aZ, aS])
          refine pl_eff rfl (fun Kp hKp => ?_)
          (first | ((with_reducible apply st_store1); assumption; rfl; (go_simp; rfl); (repeat (first | with_reducible exact Out.here _ | apply Out.there)); rfl; rfl; simp; intro wr12_3 hsr12_3; (try simp only [aP] at hsr12_3); (try simp only [aS] at hsr12_3); (try simp only [aZ] at hsr12_3)) | ((with_reducible apply st_store_own); assumption; rfl; (go_simp; rfl); (repeat (first | with_reducible exact Out.here _ | apply Out.there)); rfl; rfl; omega; intro wr12_3 hsr12_3))
          refine hKp.out _ _ ?_
          clear hKp Kp
          (try dsimp only [Act.put])
          refine pl_done ?_
          refine hK13.out _ _ ?_
          (try clear hK13 K13)
          refine wk_seq (fun K14 hK14 => ?_)
          refine wk_seq (fun K15 hK15 => ?_)
          refine wk_reg ?_
          iterate 2 (refine pl_take (v := ?_) rfl ?_ ?_; rotate_left; (· (first | ((with_reducible apply yl_load); assumption; rfl; (repeat (first | with_reducible assumption | ((with_reducible apply Cl.own); exact rfl) | ((with_reducible apply Cl.blkL); exact rfl) | with_reducible apply Cl.cons)); rfl) | (go_simp; first | done | with_reducible rfl | rfl | omega | assumption | (simp; omega)))); (try simp only [Act.put, aP, aZ, aS]))
          refine pl_done ?_
          refine hK15.out _ _ ?_
          (try clear hK15 K15)
          refine wp_block ?_
          refine wk_seq (fun K16 hK16 => ?_)
          refine wk_reg ?_
          refine pl_take (v := ?_) rfl ?_ ?_
          rotate_left
          · (go_simp; first | done | with_reducible rfl | rfl | omega | assumption | (simp; omega))
          (try simp only [Act.put, aP, aZ, aS])
          refine pl_take (v := .bool true) rfl ?_ ?_
          · (go_simp; first | done | with_reducible rfl | rfl | omega | assumption | (simp; omega))
          (try simp only [Act.put, aP, aZ, aS])
          refine pl_done ?_
          refine hK16.out _ _ ?_
          (try clear hK16 K16)
          refine wp_cond_true rfl ?_
          refine wk_seq (fun K17 hK17 => ?_)
          refine wk_reg ?_
          iterate 3 (refine pl_take (v := ?_) rfl ?_ ?_; rotate_left; (· (first | ((with_reducible apply yl_load); assumption; rfl; (repeat (first | with_reducible assumption | ((with_reducible apply Cl.own); exact rfl) | ((with_reducible apply Cl.blkL); exact rfl) | with_reducible apply Cl.cons)); rfl) | (go_simp; first | done | with_reducible rfl | rfl | omega | assumption | (simp; omega)))); (try simp only [Act.put, aP, aZ, aS]))
          refine pl_eff rfl (fun Kp hKp => ?_)
          go_simp
          (refine (putn_spec (n := (es.length : Int)) (by omega) (by omega) (by assumption)).mono ?_; rintro e49 w49 ⟨A49, c49, rfl, hs49⟩; simp only [Int.toNat_natCast] at hs49 ⊢)
          (try go_wp2_with fail)
          refine hKp.out _ _ ?_
          clear hKp Kp
          (try simp only [Act.put, aP, aZ, aS])
          iterate 5 (refine pl_take (v := ?_) rfl ?_ ?_; rotate_left; (· (go_simp; first | done | with_reducible rfl | rfl | omega | assumption | (simp; omega))); (try simp only [Act.put, aP, aZ, aS]))
          refine pl_done ?_
          refine hK17.out _ _ ?_
          (try clear hK17 K17)
          refine wk_seq (fun K18 hK18 => ?_)
          refine wk_reg ?_
          iterate 2 (refine pl_take (v := ?_) rfl ?_ ?_; rotate_left; (· (first | ((with_reducible apply yl_load); assumption; rfl; (repeat (first | with_reducible assumption | ((with_reducible apply Cl.own); exact rfl) | ((with_reducible apply Cl.blkL); exact rfl) | with_reducible apply Cl.cons)); rfl) | (go_simp; first | done | with_reducible rfl | rfl | omega | assumption | (simp; omega)))); (try simp only [Act.put, aP, aZ, aS]))
          refine pl_eff rfl (fun Kp hKp => ?_)
          ((with_reducible apply st_append); go_must (assumption; rfl; rfl; (repeat (first | with_reducible exact Out.here _ | apply Out.there)); (repeat (first | with_reducible assumption | with_reducible exact Rd.own | with_reducible exact Rd.nil | with_reducible apply Rd.cons)); (first | exact B8_one _ | exact I8_one _ | (simp [Value.oneCell'])); (first | omega | (simp only [maxLen]; omega)); omega; intro A54 c54 w54 hs54 hc54; (try ((refine hs54.own_elim ?_ ?_); omega; rintro g54 rfl)); try simp only [Nat.zero_add, List.nil_append] at hs54 hc54))
          refine hKp.out _ _ ?_
          clear hKp Kp
          (try simp only [Act.put, aP, aZ, aS])
          refine pl_eff rfl (fun Kp hKp => ?_)
          (first | ((with_reducible apply st_store1); assumption; rfl; (go_simp; rfl); (repeat (first | with_reducible exact Out.here _ | apply Out.there)); rfl; rfl; simp; intro wr16_3 hsr16_3; (try simp only [aP] at hsr16_3); (try simp only [aS] at hsr16_3); (try simp only [aZ] at hsr16_3)) | ((with_reducible apply st_store_own); assumption; rfl; (go_simp; rfl); (repeat (first | with_reducible exact Out.here _ | apply Out.there)); rfl; rfl; omega; intro wr16_3 hsr16_3))
          refine hKp.out _ _ ?_
          clear hKp Kp
          (try dsimp only [Act.put])
          refine pl_done ?_
          refine hK18.out _ _ ?_
          (try clear hK18 K18)
          refine wk_seq (fun K19 hK19 => ?_)
          refine wk_reg ?_
          iterate 4 (refine pl_take (v := ?_) rfl ?_ ?_; rotate_left; (· (first | ((with_reducible apply yl_load); assumption; rfl; (repeat (first | with_reducible assumption | ((with_reducible apply Cl.own); exact rfl) | ((with_reducible apply Cl.blkL); exact rfl) | with_reducible apply Cl.cons)); rfl) | (go_simp; first | done | with_reducible rfl | rfl | omega | assumption | (simp; omega)))); (try simp only [Act.put, aP, aZ, aS]))
          refine pl_done ?_
          refine hK19.out _ _ ?_
          (try clear hK19 K19)
          refine wp_block ?_
          -- at a loop
          go_loopw [58] (fun i wr => ∃ (k : Nat) (bc : List UInt8) (A2 : Option Addr) (c2 : Nat), i = .int .i64 k ∧ k ≤ es.length ∧ bc.length ≤ 200 + 5000 * k ∧ Hid (bc = acc ++ zy ++ (num es.length ++ catEnts (es.take k))) ∧ Hid ((es.take k).all rightE = true) ∧ Sat w0 wr (blk b2 (.cells #[.slice A2 bc.length c2] 24 (0, 0)) :: own 5 1 A2 c2 bc.length (B8 bc) :: blk b3 (.cells #[.int .i64 0] 29 (0, 0)) :: blk b1 (.cells #[.int .i64 3, .int .i64 fr, .int .i64 dn, .int .i64 tm, .int .i64 na, .int .i64 nb, .int .i64 nc, .int .i64 nd, .bool yes, .slice A es.length ca, .slice B sv.length cb, .slice C dt.length cc] 27 (0, 0)) :: L)) (fun i _ => es.length - (intOf i).toNat)
          case atStart => exact ⟨0, acc ++ zy ++ num es.length, _, _, rfl, Nat.zero_le _, by simp only [List.length_append]; omega, by unfold Hid; simp [catEnts], by unfold Hid; rfl, (by assumption : Sat w0 _ _).pick (by simp only [List.length_append, B8_app]; (repeat (first | exact Pick.nil _ | exact Pick.tail _ | exact Out.here _ | apply Out.there | apply Pick.cons | apply Pick.drop)))⟩
          case round =>
            obtain ⟨k, bc, A2, c2, rfl, hk, hbl, Hbc, Hall, hsC⟩ := hrel
            clear hsB hs40 hsr12_3 hs49 hs54 hsr16_3
            by_cases hlt : k < es.length
            · obtain ⟨x, hx⟩ : ∃ x, es[k]? = some x := ⟨es[k], List.getElem?_eq_getElem hlt⟩
              obtain ⟨⟨Ax, cx, ex, hrx⟩, _⟩ := hel k x hx
              obtain ⟨ga, oa, rfl⟩ := hRv.some_of hs (by omega)
              have hrow := hRv.row_at k hlt
              rw [ex] at hrow
              obtain ⟨t, i, q, d⟩ := x
              simp only at hrow hrx
              have i0 : (0 : Int) ≤ (k : Int) := by omega
              have i1 : (k : Int) < (es.length : Int) := by omega
              have hwk : IntKind.i64.wrap ((k : Int) + 1) = (k : Int) + 1 := IntWalk.i64_in _ (by omega)
              obtain ⟨r, hr⟩ : ∃ r, rightE ⟨t, i, q, d⟩ = r := ⟨_, rfl⟩
              cases r with
              | true =>
                have hdl := (rightE_iff hr).2.2.2.2.2.2
                have hzl := entBytes_len hr
                simp only at hdl
                obtain ⟨ze, hze⟩ : ∃ ze, ze = entBytes ⟨t, i, q, d⟩ := ⟨_, rfl⟩
                rw [← hze] at hzl
                have hPE : ∀ {w : World} {L : List HP}, Sat w0 w L → Rd w0 L Ax d.length 1 (B8 d) → Calls Try.prog 25 #[.agg #[.int .i64 t, .int .i64 i, .int .i64 q, .slice Ax d.length cx]] w (RetT w0 L (ze, 0)) := fun hs hR => by
                  have := putEntry_spec (c := cx) ⟨t, i, q, d⟩ (by simp only; omega) hs hR
                  rwa [show putEntry ⟨t, i, q, d⟩ = (ze, 0) from by unfold putEntry; rw [if_pos hr, hze]] at this
                have htl := text_len (l := ze) (by omega)
                have Hs1 : Hid (catEnts (es.take (k + 1)) = catEnts (es.take k) ++ text ze) := by rw [hze]; exact catEnts_succ hx
                have Hs2 : Hid ((es.take (k + 1)).all rightE = true) := all_succ hx Hall.out hr
                clear hx ex hel hr hze HXc HXd
                refine wk_seq (fun K20 hK20 => ?_)
                refine wk_reg ?_
                refine pl_take (v := .bool true) rfl ?_ ?_
                · (go_simp; first | done | with_reducible rfl | rfl | omega | assumption | (simp; omega))
                (try simp only [Act.put, aP, aZ, aS])
                refine pl_done ?_
                refine hK20.out _ _ ?_
                (try clear hK20 K20)
                refine wk_seq (fun K21 hK21 => ?_)
                refine wp_cond_true rfl ?_
                refine wp_skip ?_
                refine hK21.out _ _ ?_
                (try clear hK21 K21)
                refine wk_seq (fun K22 hK22 => ?_)
                refine wp_block ?_
                refine wk_seq (fun K23 hK23 => ?_)
                refine wk_reg ?_
                iterate 2 (refine pl_take (v := ?_) rfl ?_ ?_; rotate_left; (· (first | (first | ((with_reducible apply yl_loadAgg); assumption; rfl; (repeat (first | with_reducible exact Out.here _ | apply Out.there)); (simp); rfl; rfl) | ((with_reducible apply yl_loadAggR); assumption; rfl; (repeat (first | with_reducible assumption | with_reducible exact Rd.own | with_reducible exact Rd.nil | with_reducible apply Rd.cons)); rfl)) | (go_simp; first | done | with_reducible rfl | rfl | omega | assumption | (simp; omega)))); (try simp only [Act.put, aP, aZ, aS]))
                refine pl_eff rfl (fun Kp hKp => ?_)
                ((with_reducible apply st_alloc); assumption; intro b12 w12 hs12; simp only [Value.cells] at hs12)
                refine hKp.out _ _ ?_
                clear hKp Kp
                (try simp only [Act.put, aP, aZ, aS])
                refine pl_eff rfl (fun Kp hKp => ?_)
                (first | ((with_reducible apply st_storeAll); assumption; rfl; (go_simp; rfl); (repeat (first | with_reducible exact Out.here _ | apply Out.there)); rfl; (focus (first | (simp [Value.oneCell']; done) | (simp [Value.cells, Value.oneCell']; done))); rfl; intro wr19_3 hsr19_3; simp only [Value.cells] at hsr19_3) | ((with_reducible apply st_store); assumption; rfl; (go_simp; rfl); (repeat (first | with_reducible exact Out.here _ | apply Out.there)); rfl; (first | (focus (simp [Value.oneCell']; done)) | (simp [Value.cells, Value.oneCell'])); (first | (focus (simp; done)) | (simp [Value.cells])); intro wr19_3 hsr19_3; simp only [upd, Value.cells] at hsr19_3))
                refine hKp.out _ _ ?_
                clear hKp Kp
                (try dsimp only [Act.put])
                refine pl_done ?_
                refine hK23.out _ _ ?_
                (try clear hK23 K23)
                refine wk_seq (fun K24 hK24 => ?_)
                refine wk_reg ?_
                refine pl_take (v := ?_) rfl ?_ ?_
                rotate_left
                · (first | ((with_reducible apply yl_loadAgg); assumption; rfl; (repeat (first | with_reducible exact Out.here _ | apply Out.there)); (simp); rfl; rfl) | ((with_reducible apply yl_loadAggR); assumption; rfl; (repeat (first | with_reducible assumption | with_reducible exact Rd.own | with_reducible exact Rd.nil | with_reducible apply Rd.cons)); rfl))
                (try simp only [Act.put, aP, aZ, aS])
                refine pl_eff rfl (fun Kp hKp => ?_)
                go_simp
                (refine (hPE (by assumption) (by (repeat (first | with_reducible assumption | with_reducible exact Rd.own | with_reducible exact Rd.nil | with_reducible apply Rd.cons)))).mono ?_; rintro e64 w64 ⟨A64, c64, rfl, hs64⟩)
                (try go_wp2_with fail)
                refine hKp.out _ _ ?_
                clear hKp Kp
                (try simp only [Act.put, aP, aZ, aS])
                iterate 5 (refine pl_take (v := ?_) rfl ?_ ?_; rotate_left; (· (go_simp; first | done | with_reducible rfl | rfl | omega | assumption | (simp; omega))); (try simp only [Act.put, aP, aZ, aS]))
                refine pl_done ?_
                refine hK24.out _ _ ?_
                (try clear hK24 K24)
                refine wk_seq (fun K25 hK25 => ?_)
                refine wk_reg ?_
                refine pl_take (v := ?_) rfl ?_ ?_
                rotate_left
                · (go_simp; first | done | with_reducible rfl | rfl | omega | assumption | (simp; omega))
                (try simp only [Act.put, aP, aZ, aS])
                refine pl_take (v := .bool true) rfl ?_ ?_
                · (go_simp; first | done | with_reducible rfl | rfl | omega | assumption | (simp; omega))
                (try simp only [Act.put, aP, aZ, aS])
                refine pl_eff rfl (fun Kp hKp => ?_)
                go_simp
                ((refine (demand_ok _).mono ?_); rintro e69 w69 ⟨rfl, rfl⟩)
                (try go_wp2_with fail)
                refine hKp.out _ _ ?_
                clear hKp Kp
                (try simp only [Act.put, aP, aZ, aS])
                refine pl_done ?_
                refine hK25.out _ _ ?_
                (try clear hK25 K25)
                refine rg_start2 (L := L) rfl (by assumption) (by (repeat (first | exact Pick.nil _ | with_reducible exact Pick.tail _ | with_reducible exact Out.here _ | apply Out.there | apply Pick.cons | apply Pick.drop))) (fun wr22 hsr22 hsq22 => ?_)
                have hsz22 := hsr22
                refine rg_take (i := 1) (v := ?_) rfl (by kernel_rfl) (by kernel_rfl) (by kernel_rfl) (fun _ _ _ h => quit_put (P := Try.prog) (fn := Try.f10) rfl (by simp) (by simp) h) rfl (by assumption) ?_ ?_
                rotate_left
                · intro w hSw; (go_simp; first | done | with_reducible rfl | rfl | omega | assumption | (simp; omega))
                (try simp only [Act.put, aP, aZ, aS])
                refine rg_two (i := 0) (j := 2) (by kernel_rfl) rfl rfl rfl rfl (fun Kp hKp => ?_) (fun Kp hKp => ?_)
                · ((with_reducible apply st_load); assumption; rfl; (repeat (first | with_reducible assumption | ((with_reducible apply Cl.own); exact rfl) | ((with_reducible apply Cl.blkL); exact rfl) | with_reducible apply Cl.cons)))
                  refine rg_back (hK := hKp) ?_ (fun hsk70 => ?_)
                  · (first | assumption | (apply Sat.drew; assumption) | (apply Sat.pick; assumption; (repeat (first | exact Pick.nil _ | with_reducible exact Pick.tail _ | with_reducible exact Out.here _ | apply Out.there | apply Pick.cons | apply Pick.drop))))
                  clear hKp Kp
                  have hsz70 := hsr22
                  (try simp only [Act.put, aP, aZ, aS])
                  refine rg_one (i := 2) (by kernel_rfl) rfl rfl (fun Kp hKp => ?_)
                  go_simp
                  ((refine (bytes_m_spec _ (by omega) (by assumption) (by (repeat (first | with_reducible assumption | with_reducible exact Rd.own | with_reducible exact Rd.nil | with_reducible apply Rd.cons)))).mono ?_); rintro e72 w72 ⟨A72, c72, rfl, hs72⟩)
                  (try go_wp2_with fail)
                  refine rg_back (hK := hKp) ?_ (fun hsk72 => ?_)
                  · (first | assumption | (apply Sat.drew; assumption) | (apply Sat.pick; assumption; (repeat (first | exact Pick.nil _ | with_reducible exact Pick.tail _ | with_reducible exact Out.here _ | apply Out.there | apply Pick.cons | apply Pick.drop))))
                  clear hKp Kp
                  have hsz72 := hs72
                  (try simp only [Act.put, aP, aZ, aS])
                  refine rg_one (i := 3) (by kernel_rfl) rfl rfl (fun Kp hKp => ?_)
                  ((with_reducible apply st_append); go_must (assumption; rfl; rfl; (repeat (first | with_reducible exact Out.here _ | apply Out.there)); (repeat (first | with_reducible assumption | with_reducible exact Rd.own | with_reducible exact Rd.nil | with_reducible apply Rd.cons)); (first | exact B8_one _ | exact I8_one _ | (simp [Value.oneCell'])); (first | omega | (simp only [maxLen]; omega)); omega; intro A73 c73 w73 hs73 hc73; (try ((refine hs73.own_elim ?_ ?_); omega; rintro g73 rfl)); try simp only [Nat.zero_add, List.nil_append] at hs73 hc73))
                  refine rg_back (hK := hKp) ?_ (fun hsk73 => ?_)
                  · (first | assumption | (apply Sat.drew; assumption) | (apply Sat.pick; assumption; (repeat (first | exact Pick.nil _ | with_reducible exact Pick.tail _ | with_reducible exact Out.here _ | apply Out.there | apply Pick.cons | apply Pick.drop))))
                  clear hKp Kp
                  have hsz73 := hs73
                  (try simp only [Act.put, aP, aZ, aS])
                  refine rg_one (i := 4) (by kernel_rfl) rfl rfl (fun Kp hKp => ?_)
                  (first | ((with_reducible apply st_store1); assumption; rfl; (go_simp; rfl); (repeat (first | with_reducible exact Out.here _ | apply Out.there)); rfl; rfl; simp; intro wr22_4 hsr22_4; (try simp only [aP] at hsr22_4); (try simp only [aS] at hsr22_4); (try simp only [aZ] at hsr22_4)) | ((with_reducible apply st_store_own); assumption; rfl; (go_simp; rfl); (repeat (first | with_reducible exact Out.here _ | apply Out.there)); rfl; rfl; omega; intro wr22_4 hsr22_4))
                  refine rg_back (hK := hKp) ?_ (fun hskr22_4 => ?_)
                  · (first | assumption | (apply Sat.drew; assumption) | (apply Sat.pick; assumption; (repeat (first | exact Pick.nil _ | with_reducible exact Pick.tail _ | with_reducible exact Out.here _ | apply Out.there | apply Pick.cons | apply Pick.drop))))
                  clear hKp Kp
                  have hszr22_4 := hsr22_4
                  (try dsimp only [Act.put])
                  refine rg_done (by kernel_rfl) ?_
                  refine hK22.out _ _ ?_
                  (try clear hK22 K22)
                  refine wk_reg ?_
                  iterate 2 (refine pl_take (v := ?_) rfl ?_ ?_; rotate_left; (· (go_simp; first | done | with_reducible rfl | rfl | omega | assumption | (simp; omega))); (try simp only [Act.put, aP, aZ, aS]))
                  refine pl_done ?_
                  dsimp only [Exit.then]
                  go_roundw
                  case rel => exact ⟨k + 1, bc ++ text ze, _, _, by go_num, by omega, by simp only [List.length_append]; omega, by unfold Hid; rw [Hs1.out, Hbc.out]; simp only [List.append_assoc], Hs2, hsr22_4.pick (by simp only [List.length_append, B8_app]; (repeat (first | exact Pick.nil _ | exact Pick.tail _ | exact Out.here _ | apply Out.there | apply Pick.cons | apply Pick.drop)))⟩
                  case measure => simp [intOf]; omega
                · go_simp
                  ((refine (bytes_m_spec _ (by omega) (by assumption) (by (repeat (first | with_reducible assumption | with_reducible exact Rd.own | with_reducible exact Rd.nil | with_reducible apply Rd.cons)))).mono ?_); rintro e72 w72 ⟨A72, c72, rfl, hs72⟩)
                  (try go_wp2_with fail)
                  refine rg_back (hK := hKp) ?_ (fun hsk72 => ?_)
                  · (first | assumption | (apply Sat.drew; assumption) | (apply Sat.pick; assumption; (repeat (first | exact Pick.nil _ | with_reducible exact Pick.tail _ | with_reducible exact Out.here _ | apply Out.there | apply Pick.cons | apply Pick.drop))))
                  clear hKp Kp
                  have hsz72 := hs72
                  (try simp only [Act.put, aP, aZ, aS])
                  refine rg_one (i := 0) (by kernel_rfl) rfl rfl (fun Kp hKp => ?_)
                  ((with_reducible apply st_load); assumption; rfl; (repeat (first | with_reducible assumption | ((with_reducible apply Cl.own); exact rfl) | ((with_reducible apply Cl.blkL); exact rfl) | with_reducible apply Cl.cons)))
                  refine rg_back (hK := hKp) ?_ (fun hsk70 => ?_)
                  · (first | assumption | (apply Sat.drew; assumption) | (apply Sat.pick; assumption; (repeat (first | exact Pick.nil _ | with_reducible exact Pick.tail _ | with_reducible exact Out.here _ | apply Out.there | apply Pick.cons | apply Pick.drop))))
                  clear hKp Kp
                  have hsz70 := hs72
                  (try simp only [Act.put, aP, aZ, aS])
                  refine rg_one (i := 3) (by kernel_rfl) rfl rfl (fun Kp hKp => ?_)
                  ((with_reducible apply st_append); go_must (assumption; rfl; rfl; (repeat (first | with_reducible exact Out.here _ | apply Out.there)); (repeat (first | with_reducible assumption | with_reducible exact Rd.own | with_reducible exact Rd.nil | with_reducible apply Rd.cons)); (first | exact B8_one _ | exact I8_one _ | (simp [Value.oneCell'])); (first | omega | (simp only [maxLen]; omega)); omega; intro A73 c73 w73 hs73 hc73; (try ((refine hs73.own_elim ?_ ?_); omega; rintro g73 rfl)); try simp only [Nat.zero_add, List.nil_append] at hs73 hc73))
                  refine rg_back (hK := hKp) ?_ (fun hsk73 => ?_)
                  · (first | assumption | (apply Sat.drew; assumption) | (apply Sat.pick; assumption; (repeat (first | exact Pick.nil _ | with_reducible exact Pick.tail _ | with_reducible exact Out.here _ | apply Out.there | apply Pick.cons | apply Pick.drop))))
                  clear hKp Kp
                  have hsz73 := hs73
                  (try simp only [Act.put, aP, aZ, aS])
                  refine rg_one (i := 4) (by kernel_rfl) rfl rfl (fun Kp hKp => ?_)
                  (first | ((with_reducible apply st_store1); assumption; rfl; (go_simp; rfl); (repeat (first | with_reducible exact Out.here _ | apply Out.there)); rfl; rfl; simp; intro wr22_4 hsr22_4; (try simp only [aP] at hsr22_4); (try simp only [aS] at hsr22_4); (try simp only [aZ] at hsr22_4)) | ((with_reducible apply st_store_own); assumption; rfl; (go_simp; rfl); (repeat (first | with_reducible exact Out.here _ | apply Out.there)); rfl; rfl; omega; intro wr22_4 hsr22_4))
                  refine rg_back (hK := hKp) ?_ (fun hskr22_4 => ?_)
                  · (first | assumption | (apply Sat.drew; assumption) | (apply Sat.pick; assumption; (repeat (first | exact Pick.nil _ | with_reducible exact Pick.tail _ | with_reducible exact Out.here _ | apply Out.there | apply Pick.cons | apply Pick.drop))))
                  clear hKp Kp
                  have hszr22_4 := hsr22_4
                  (try dsimp only [Act.put])
                  refine rg_done (by kernel_rfl) ?_
                  refine hK22.out _ _ ?_
                  (try clear hK22 K22)
                  refine wk_reg ?_
                  iterate 2 (refine pl_take (v := ?_) rfl ?_ ?_; rotate_left; (· (go_simp; first | done | with_reducible rfl | rfl | omega | assumption | (simp; omega))); (try simp only [Act.put, aP, aZ, aS]))
                  refine pl_done ?_
                  dsimp only [Exit.then]
                  go_roundw
                  case rel => exact ⟨k + 1, bc ++ text ze, _, _, by go_num, by omega, by simp only [List.length_append]; omega, by unfold Hid; rw [Hs1.out, Hbc.out]; simp only [List.append_assoc], Hs2, hsr22_4.pick (by simp only [List.length_append, B8_app]; (repeat (first | exact Pick.nil _ | exact Pick.tail _ | exact Out.here _ | apply Out.there | apply Pick.cons | apply Pick.drop)))⟩
                  case measure => simp [intOf]; omega
              | false =>
                obtain rfl : X = ([], 1) := HXd.out (all_false hx hr)
                by_cases hdl : d.length ≤ 4294967296
                · have hPE : ∀ {w : World} {L : List HP}, Sat w0 w L → Rd w0 L Ax d.length 1 (B8 d) → Calls Try.prog 25 #[.agg #[.int .i64 t, .int .i64 i, .int .i64 q, .slice Ax d.length cx]] w (RetT w0 L ([], 1)) := fun hs hR => by
                    have := putEntry_spec (c := cx) ⟨t, i, q, d⟩ (by simp only; omega) hs hR
                    rwa [show putEntry ⟨t, i, q, d⟩ = ([], 1) from by unfold putEntry; rw [hr]; rfl] at this
                  clear hx ex hel hr HXc HXd
                  refine wk_seq (fun K20 hK20 => ?_)
                  refine wk_reg ?_
                  refine pl_take (v := .bool true) rfl ?_ ?_
                  · (go_simp; first | done | with_reducible rfl | rfl | omega | assumption | (simp; omega))
                  (try simp only [Act.put, aP, aZ, aS])
                  refine pl_done ?_
                  refine hK20.out _ _ ?_
                  (try clear hK20 K20)
                  refine wk_seq (fun K21 hK21 => ?_)
                  refine wp_cond_true rfl ?_
                  refine wp_skip ?_
                  refine hK21.out _ _ ?_
                  (try clear hK21 K21)
                  refine wk_seq (fun K22 hK22 => ?_)
                  refine wp_block ?_
                  refine wk_seq (fun K23 hK23 => ?_)
                  refine wk_reg ?_
                  iterate 2 (refine pl_take (v := ?_) rfl ?_ ?_; rotate_left; (· (first | (first | ((with_reducible apply yl_loadAgg); assumption; rfl; (repeat (first | with_reducible exact Out.here _ | apply Out.there)); (simp); rfl; rfl) | ((with_reducible apply yl_loadAggR); assumption; rfl; (repeat (first | with_reducible assumption | with_reducible exact Rd.own | with_reducible exact Rd.nil | with_reducible apply Rd.cons)); rfl)) | (go_simp; first | done | with_reducible rfl | rfl | omega | assumption | (simp; omega)))); (try simp only [Act.put, aP, aZ, aS]))
                  refine pl_eff rfl (fun Kp hKp => ?_)
                  ((with_reducible apply st_alloc); assumption; intro b12 w12 hs12; simp only [Value.cells] at hs12)
                  refine hKp.out _ _ ?_
                  clear hKp Kp
                  (try simp only [Act.put, aP, aZ, aS])
                  refine pl_eff rfl (fun Kp hKp => ?_)
                  (first | ((with_reducible apply st_storeAll); assumption; rfl; (go_simp; rfl); (repeat (first | with_reducible exact Out.here _ | apply Out.there)); rfl; (focus (first | (simp [Value.oneCell']; done) | (simp [Value.cells, Value.oneCell']; done))); rfl; intro wr19_3 hsr19_3; simp only [Value.cells] at hsr19_3) | ((with_reducible apply st_store); assumption; rfl; (go_simp; rfl); (repeat (first | with_reducible exact Out.here _ | apply Out.there)); rfl; (first | (focus (simp [Value.oneCell']; done)) | (simp [Value.cells, Value.oneCell'])); (first | (focus (simp; done)) | (simp [Value.cells])); intro wr19_3 hsr19_3; simp only [upd, Value.cells] at hsr19_3))
                  refine hKp.out _ _ ?_
                  clear hKp Kp
                  (try dsimp only [Act.put])
                  refine pl_done ?_
                  refine hK23.out _ _ ?_
                  (try clear hK23 K23)
                  refine wk_seq (fun K24 hK24 => ?_)
                  refine wk_reg ?_
                  refine pl_take (v := ?_) rfl ?_ ?_
                  rotate_left
                  · (first | ((with_reducible apply yl_loadAgg); assumption; rfl; (repeat (first | with_reducible exact Out.here _ | apply Out.there)); (simp); rfl; rfl) | ((with_reducible apply yl_loadAggR); assumption; rfl; (repeat (first | with_reducible assumption | with_reducible exact Rd.own | with_reducible exact Rd.nil | with_reducible apply Rd.cons)); rfl))
                  (try simp only [Act.put, aP, aZ, aS])
                  refine pl_eff rfl (fun Kp hKp => ?_)
                  go_simp
                  (refine (hPE (by assumption) (by (repeat (first | with_reducible assumption | with_reducible exact Rd.own | with_reducible exact Rd.nil | with_reducible apply Rd.cons)))).mono ?_; rintro e64 w64 ⟨A64, c64, rfl, hs64⟩)
                  (try go_wp2_with fail)
                  refine hKp.out _ _ ?_
                  clear hKp Kp
                  (try simp only [Act.put, aP, aZ, aS])
                  iterate 5 (refine pl_take (v := ?_) rfl ?_ ?_; rotate_left; (· (go_simp; first | done | with_reducible rfl | rfl | omega | assumption | (simp; omega))); (try simp only [Act.put, aP, aZ, aS]))
                  refine pl_done ?_
                  refine hK24.out _ _ ?_
                  (try clear hK24 K24)
                  refine wk_seq (fun K25 hK25 => ?_)
                  refine wk_reg ?_
                  refine pl_take (v := ?_) rfl ?_ ?_
                  rotate_left
                  · (go_simp; first | done | with_reducible rfl | rfl | omega | assumption | (simp; omega))
                  (try simp only [Act.put, aP, aZ, aS])
                  refine pl_take (v := .bool false) rfl ?_ ?_
                  · (go_simp; first | done | with_reducible rfl | rfl | omega | assumption | (simp; omega))
                  (try simp only [Act.put, aP, aZ, aS])
                  refine pl_eff rfl (fun Kp hKp => ?_)
                  go_simp
                  ((refine (demand_bad _).mono ?_); rintro e69 w69 ⟨rfl, rfl⟩)
                  -- it panics
                  exact put_caught (px := b2) (pe := b3) 1 rfl rfl (hs64.pick (by (repeat (first | exact Pick.nil _ | exact Pick.tail _ | exact Out.here _ | apply Out.there | apply Pick.cons | apply Pick.drop))))
                · exact absurd (hlen _ (List.mem_of_getElem? hx)) (by simp only; omega)
            · obtain rfl : k = es.length := by omega
              have e1 : es.take es.length = es := List.take_length
              obtain rfl : X = (bc, 0) := by
                rw [HXc.out (by have := Hall.out; rwa [e1] at this), Hbc.out, e1]
              clear e1 HXc HXd hel
              refine wk_seq (fun K20 hK20 => ?_)
              refine wk_reg ?_
              refine pl_take (v := .bool false) rfl ?_ ?_
              · (go_simp; first | done | with_reducible rfl | rfl | omega | assumption | (simp; omega))
              (try simp only [Act.put, aP, aZ, aS])
              refine pl_done ?_
              refine hK20.out _ _ ?_
              (try clear hK20 K20)
              refine wk_seq (fun K21 hK21 => ?_)
              refine wp_cond_false rfl ?_
              refine wp_exit ?_
              refine hK14.out _ _ ?_
              (try clear hK14 K14)
              refine wk_seq (fun K29 hK29 => ?_)
              refine wk_reg ?_
              refine pl_take (v := ?_) rfl ?_ ?_
              rotate_left
              · ((with_reducible apply yl_load); assumption; rfl; (repeat (first | with_reducible assumption | ((with_reducible apply Cl.own); exact rfl) | ((with_reducible apply Cl.blkL); exact rfl) | with_reducible apply Cl.cons)); rfl)
              (try simp only [Act.put, aP, aZ, aS])
              refine pl_eff rfl (fun Kp hKp => ?_)
              (first | ((with_reducible apply st_store1); assumption; rfl; (go_simp; rfl); (repeat (first | with_reducible exact Out.here _ | apply Out.there)); rfl; rfl; simp; intro wr28_1 hsr28_1; (try simp only [aP] at hsr28_1); (try simp only [aS] at hsr28_1); (try simp only [aZ] at hsr28_1)) | ((with_reducible apply st_store_own); assumption; rfl; (go_simp; rfl); (repeat (first | with_reducible exact Out.here _ | apply Out.there)); rfl; rfl; omega; intro wr28_1 hsr28_1))
              refine hKp.out _ _ ?_
              clear hKp Kp
              (try dsimp only [Act.put])
              refine pl_eff rfl (fun Kp hKp => ?_)
              (first | ((with_reducible apply st_store1); assumption; rfl; (go_simp; rfl); (repeat (first | with_reducible exact Out.here _ | apply Out.there)); rfl; rfl; simp; intro wr28_2 hsr28_2; (try simp only [aP] at hsr28_2); (try simp only [aS] at hsr28_2); (try simp only [aZ] at hsr28_2)) | ((with_reducible apply st_store_own); assumption; rfl; (go_simp; rfl); (repeat (first | with_reducible exact Out.here _ | apply Out.there)); rfl; rfl; omega; intro wr28_2 hsr28_2))
              refine hKp.out _ _ ?_
              clear hKp Kp
              (try dsimp only [Act.put])
              refine pl_done ?_
              refine hK29.out _ _ ?_
              (try clear hK29 K29)
              refine wp_ret ?_
              exact put_leaves (px := b2) (pe := b3) bc rfl rfl (hsr28_2.pick (by (repeat (first | exact Pick.nil _ | exact Pick.tail _ | exact Out.here _ | apply Out.there | apply Pick.cons | apply Pick.drop))))
        · have k3' : (kd == 3) = false := by simp [k3]
          have e0 : es = [] := List.eq_nil_of_length_eq_zero (by omega)
          by_cases k5 : kd = 5
          · have k5' : (kd == 5) = true := by simp [k5]
            have hPS : ∀ {w : World} {L : List HP}, Sat w0 w L → Rd w0 L B sv.length 1 (I8 sv) → Calls Try.prog 28 #[.slice B sv.length cb] w (RetT w0 L (putServers sv)) := fun hs hr => putServers_spec sv sv.length rfl (by omega) hs hr
            obtain ⟨σ, hσ⟩ : ∃ σ, okServers sv = σ := ⟨_, rfl⟩
            cases σ with
            | false =>
              rw [show putServers sv = ([], 1) from by unfold putServers; rw [hσ]; rfl] at hPS
              obtain rfl : X = ([], 1) := by
                rw [HXb.out, if_neg]; intro h; have := (Hrm.out.1 h).2.2 k5; simp only at this; rw [hσ] at this; cases this
              clear hσ e0 HXb Hrm HRt k5 HX
              refine hK11.out _ _ ?_
              clear hK11 K11
              refine wk_seq (fun K13 hK13 => ?_)
              refine wk_reg ?_
              iterate 2 (refine pl_take (v := ?_) rfl ?_ ?_; rotate_left; (· (first | ((with_reducible apply yl_load); assumption; rfl; (repeat (first | with_reducible assumption | ((with_reducible apply Cl.own); exact rfl) | ((with_reducible apply Cl.blkL); exact rfl) | with_reducible apply Cl.cons)); rfl) | (go_simp; first | done | with_reducible rfl | rfl | omega | assumption | (simp; omega)))); (try simp only [Act.put, aP, aZ, aS]))
              refine pl_eff rfl (fun Kp hKp => ?_)
              ((with_reducible apply st_append); go_must (assumption; rfl; rfl; (repeat (first | with_reducible exact Out.here _ | apply Out.there)); (repeat (first | with_reducible assumption | with_reducible exact Rd.own | with_reducible exact Rd.nil | with_reducible apply Rd.cons)); (first | exact B8_one _ | exact I8_one _ | (simp [Value.oneCell'])); (first | omega | (simp only [maxLen]; omega)); omega; intro A40 c40 w40 hs40 hc40; (try ((refine hs40.own_elim ?_ ?_); omega; rintro g40 rfl)); try simp only [Nat.zero_add, List.nil_append] at hs40 hc40))
              refine hKp.out _ _ ?_
              clear hKp Kp
              (try simp only [Act.put, aP, aZ, aS])
              refine pl_eff rfl (fun Kp hKp => ?_)
              (first | ((with_reducible apply st_store1); assumption; rfl; (go_simp; rfl); (repeat (first | with_reducible exact Out.here _ | apply Out.there)); rfl; rfl; simp; intro wr12_3 hsr12_3; (try simp only [aP] at hsr12_3); (try simp only [aS] at hsr12_3); (try simp only [aZ] at hsr12_3)) | ((with_reducible apply st_store_own); assumption; rfl; (go_simp; rfl); (repeat (first | with_reducible exact Out.here _ | apply Out.there)); rfl; rfl; omega; intro wr12_3 hsr12_3))
              refine hKp.out _ _ ?_
              clear hKp Kp
              (try dsimp only [Act.put])
              refine pl_done ?_
              refine hK13.out _ _ ?_
              (try clear hK13 K13)
              refine wk_seq (fun K14 hK14 => ?_)
              refine wk_seq (fun K15 hK15 => ?_)
              refine wk_reg ?_
              iterate 2 (refine pl_take (v := ?_) rfl ?_ ?_; rotate_left; (· (first | ((with_reducible apply yl_load); assumption; rfl; (repeat (first | with_reducible assumption | ((with_reducible apply Cl.own); exact rfl) | ((with_reducible apply Cl.blkL); exact rfl) | with_reducible apply Cl.cons)); rfl) | (go_simp; first | done | with_reducible rfl | rfl | omega | assumption | (simp; omega)))); (try simp only [Act.put, aP, aZ, aS]))
              refine pl_done ?_
              refine hK15.out _ _ ?_
              (try clear hK15 K15)
              refine wp_block ?_
              refine wk_seq (fun K16 hK16 => ?_)
              refine wk_reg ?_
              refine pl_take (v := ?_) rfl ?_ ?_
              rotate_left
              · (go_simp; first | done | with_reducible rfl | rfl | omega | assumption | (simp; omega))
              (try simp only [Act.put, aP, aZ, aS])
              refine pl_take (v := .bool false) rfl ?_ ?_
              · (go_simp; first | done | with_reducible rfl | rfl | omega | assumption | (simp; omega))
              (try simp only [Act.put, aP, aZ, aS])
              refine pl_done ?_
              refine hK16.out _ _ ?_
              (try clear hK16 K16)
              refine wp_cond_false rfl ?_
              refine wk_seq (fun K26 hK26 => ?_)
              refine wk_reg ?_
              refine pl_take (v := ?_) rfl ?_ ?_
              rotate_left
              · (go_simp; first | done | with_reducible rfl | rfl | omega | assumption | (simp; omega))
              (try simp only [Act.put, aP, aZ, aS])
              refine pl_take (v := .bool true) rfl ?_ ?_
              · (go_simp; first | done | with_reducible rfl | rfl | omega | assumption | (simp; omega))
              (try simp only [Act.put, aP, aZ, aS])
              refine pl_done ?_
              refine hK26.out _ _ ?_
              (try clear hK26 K26)
              refine wp_cond_true rfl ?_
              refine wk_seq (fun K27 hK27 => ?_)
              refine wk_reg ?_
              iterate 2 (refine pl_take (v := ?_) rfl ?_ ?_; rotate_left; (· (first | ((with_reducible apply yl_load); assumption; rfl; (repeat (first | with_reducible assumption | ((with_reducible apply Cl.own); exact rfl) | ((with_reducible apply Cl.blkL); exact rfl) | with_reducible apply Cl.cons)); rfl) | (go_simp; first | done | with_reducible rfl | rfl | omega | assumption | (simp; omega)))); (try simp only [Act.put, aP, aZ, aS]))
              refine pl_eff rfl (fun Kp hKp => ?_)
              go_simp
              (refine (hPS (by assumption) (by (repeat (first | with_reducible assumption | with_reducible exact Rd.own | with_reducible exact Rd.nil | with_reducible apply Rd.cons)))).mono ?_; rintro e80 w80 ⟨A80, c80, rfl, hs80⟩)
              (try go_wp2_with fail)
              refine hKp.out _ _ ?_
              clear hKp Kp
              (try simp only [Act.put, aP, aZ, aS])
              iterate 5 (refine pl_take (v := ?_) rfl ?_ ?_; rotate_left; (· (go_simp; first | done | with_reducible rfl | rfl | omega | assumption | (simp; omega))); (try simp only [Act.put, aP, aZ, aS]))
              refine pl_done ?_
              refine hK27.out _ _ ?_
              (try clear hK27 K27)
              refine wk_seq (fun K28 hK28 => ?_)
              refine wk_reg ?_
              refine pl_take (v := ?_) rfl ?_ ?_
              rotate_left
              · (go_simp; first | done | with_reducible rfl | rfl | omega | assumption | (simp; omega))
              (try simp only [Act.put, aP, aZ, aS])
              refine pl_take (v := .bool false) rfl ?_ ?_
              · (go_simp; first | done | with_reducible rfl | rfl | omega | assumption | (simp; omega))
              (try simp only [Act.put, aP, aZ, aS])
              refine pl_eff rfl (fun Kp hKp => ?_)
              go_simp
              ((refine (demand_bad _).mono ?_); rintro e85 w85 ⟨rfl, rfl⟩)
              -- it panics
              exact put_caught (px := b2) (pe := b3) 1 rfl rfl (hs80.pick (by (repeat (first | exact Pick.nil _ | exact Pick.tail _ | exact Out.here _ | apply Out.there | apply Pick.cons | apply Pick.drop))))
            | true =>
              obtain ⟨z, hz⟩ : ∃ z, z = srvBytes sv := ⟨_, rfl⟩
              have hzl : z.length ≤ 64 := by rw [hz]; exact srvBytes_len hσ
              rw [show putServers sv = (z, 0) from by unfold putServers; rw [hσ, hz]; rfl] at hPS
              have t1 := text_len (l := z) (by omega)
              have t2 := text_len (l := dt) (by omega)
              obtain ⟨m, hm⟩ : ∃ m, m = acc ++ zy ++ (text z ++ text dt) := ⟨_, rfl⟩
              have hml : m.length ≤ 100000 := by rw [hm]; simp only [List.length_append]; omega
              have Hm : Hid ([acc ++ zy, text z, text dt].flatten = m) := by rw [hm]; unfold Hid; simp
              obtain rfl : X = (m, 0) := by
                rw [HXb.out, if_pos (Hrm.out.2 ⟨HRt.out, by rw [e0]; rfl, fun _ => hσ⟩), hm, hz]
                simp only [msgTail, if_neg k3, if_pos k5]
              clear hσ hz e0 HXb Hrm HRt k5 HX hm
              refine hK11.out _ _ ?_
              clear hK11 K11
              refine wk_seq (fun K13 hK13 => ?_)
              refine wk_reg ?_
              iterate 2 (refine pl_take (v := ?_) rfl ?_ ?_; rotate_left; (· (first | ((with_reducible apply yl_load); assumption; rfl; (repeat (first | with_reducible assumption | ((with_reducible apply Cl.own); exact rfl) | ((with_reducible apply Cl.blkL); exact rfl) | with_reducible apply Cl.cons)); rfl) | (go_simp; first | done | with_reducible rfl | rfl | omega | assumption | (simp; omega)))); (try simp only [Act.put, aP, aZ, aS]))
              refine pl_eff rfl (fun Kp hKp => ?_)
              ((with_reducible apply st_append); go_must (assumption; rfl; rfl; (repeat (first | with_reducible exact Out.here _ | apply Out.there)); (repeat (first | with_reducible assumption | with_reducible exact Rd.own | with_reducible exact Rd.nil | with_reducible apply Rd.cons)); (first | exact B8_one _ | exact I8_one _ | (simp [Value.oneCell'])); (first | omega | (simp only [maxLen]; omega)); omega; intro A40 c40 w40 hs40 hc40; (try ((refine hs40.own_elim ?_ ?_); omega; rintro g40 rfl)); try simp only [Nat.zero_add, List.nil_append] at hs40 hc40))
              refine hKp.out _ _ ?_
              clear hKp Kp
              (try simp only [Act.put, aP, aZ, aS])
              refine pl_eff rfl (fun Kp hKp => ?_)
              (first | ((with_reducible apply st_store1); assumption; rfl; (go_simp; rfl); (repeat (first | with_reducible exact Out.here _ | apply Out.there)); rfl; rfl; simp; intro wr12_3 hsr12_3; (try simp only [aP] at hsr12_3); (try simp only [aS] at hsr12_3); (try simp only [aZ] at hsr12_3)) | ((with_reducible apply st_store_own); assumption; rfl; (go_simp; rfl); (repeat (first | with_reducible exact Out.here _ | apply Out.there)); rfl; rfl; omega; intro wr12_3 hsr12_3))
              refine hKp.out _ _ ?_
              clear hKp Kp
              (try dsimp only [Act.put])
              refine pl_done ?_
              refine hK13.out _ _ ?_
              (try clear hK13 K13)
              refine wk_seq (fun K14 hK14 => ?_)
              refine wk_seq (fun K15 hK15 => ?_)
              refine wk_reg ?_
              iterate 2 (refine pl_take (v := ?_) rfl ?_ ?_; rotate_left; (· (first | ((with_reducible apply yl_load); assumption; rfl; (repeat (first | with_reducible assumption | ((with_reducible apply Cl.own); exact rfl) | ((with_reducible apply Cl.blkL); exact rfl) | with_reducible apply Cl.cons)); rfl) | (go_simp; first | done | with_reducible rfl | rfl | omega | assumption | (simp; omega)))); (try simp only [Act.put, aP, aZ, aS]))
              refine pl_done ?_
              refine hK15.out _ _ ?_
              (try clear hK15 K15)
              refine wp_block ?_
              refine wk_seq (fun K16 hK16 => ?_)
              refine wk_reg ?_
              refine pl_take (v := ?_) rfl ?_ ?_
              rotate_left
              · (go_simp; first | done | with_reducible rfl | rfl | omega | assumption | (simp; omega))
              (try simp only [Act.put, aP, aZ, aS])
              refine pl_take (v := .bool false) rfl ?_ ?_
              · (go_simp; first | done | with_reducible rfl | rfl | omega | assumption | (simp; omega))
              (try simp only [Act.put, aP, aZ, aS])
              refine pl_done ?_
              refine hK16.out _ _ ?_
              (try clear hK16 K16)
              refine wp_cond_false rfl ?_
              refine wk_seq (fun K26 hK26 => ?_)
              refine wk_reg ?_
              refine pl_take (v := ?_) rfl ?_ ?_
              rotate_left
              · (go_simp; first | done | with_reducible rfl | rfl | omega | assumption | (simp; omega))
              (try simp only [Act.put, aP, aZ, aS])
              refine pl_take (v := .bool true) rfl ?_ ?_
              · (go_simp; first | done | with_reducible rfl | rfl | omega | assumption | (simp; omega))
              (try simp only [Act.put, aP, aZ, aS])
              refine pl_done ?_
              refine hK26.out _ _ ?_
              (try clear hK26 K26)
              refine wp_cond_true rfl ?_
              refine wk_seq (fun K27 hK27 => ?_)
              refine wk_reg ?_
              iterate 2 (refine pl_take (v := ?_) rfl ?_ ?_; rotate_left; (· (first | ((with_reducible apply yl_load); assumption; rfl; (repeat (first | with_reducible assumption | ((with_reducible apply Cl.own); exact rfl) | ((with_reducible apply Cl.blkL); exact rfl) | with_reducible apply Cl.cons)); rfl) | (go_simp; first | done | with_reducible rfl | rfl | omega | assumption | (simp; omega)))); (try simp only [Act.put, aP, aZ, aS]))
              refine pl_eff rfl (fun Kp hKp => ?_)
              go_simp
              (refine (hPS (by assumption) (by (repeat (first | with_reducible assumption | with_reducible exact Rd.own | with_reducible exact Rd.nil | with_reducible apply Rd.cons)))).mono ?_; rintro e80 w80 ⟨A80, c80, rfl, hs80⟩)
              (try go_wp2_with fail)
              refine hKp.out _ _ ?_
              clear hKp Kp
              (try simp only [Act.put, aP, aZ, aS])
              iterate 5 (refine pl_take (v := ?_) rfl ?_ ?_; rotate_left; (· (go_simp; first | done | with_reducible rfl | rfl | omega | assumption | (simp; omega))); (try simp only [Act.put, aP, aZ, aS]))
              refine pl_done ?_
              refine hK27.out _ _ ?_
              (try clear hK27 K27)
              refine wk_seq (fun K28 hK28 => ?_)
              refine wk_reg ?_
              refine pl_take (v := ?_) rfl ?_ ?_
              rotate_left
              · (go_simp; first | done | with_reducible rfl | rfl | omega | assumption | (simp; omega))
              (try simp only [Act.put, aP, aZ, aS])
              refine pl_take (v := .bool true) rfl ?_ ?_
              · (go_simp; first | done | with_reducible rfl | rfl | omega | assumption | (simp; omega))
              (try simp only [Act.put, aP, aZ, aS])
              refine pl_eff rfl (fun Kp hKp => ?_)
              go_simp
              ((refine (demand_ok _).mono ?_); rintro e85 w85 ⟨rfl, rfl⟩)
              (try go_wp2_with fail)
              refine hKp.out _ _ ?_
              clear hKp Kp
              (try simp only [Act.put, aP, aZ, aS])
              refine pl_done ?_
              refine hK28.out _ _ ?_
              (try clear hK28 K28)
              refine rg_start2 (L := blk b1 (.cells #[.int .i64 kd, .int .i64 fr, .int .i64 dn, .int .i64 tm, .int .i64 na, .int .i64 nb, .int .i64 nc, .int .i64 nd, .bool yes, .slice A es.length ca, .slice B sv.length cb, .slice C dt.length cc] 27 (0, 0)) :: L) rfl (by assumption) (by (repeat (first | exact Pick.nil _ | with_reducible exact Pick.tail _ | with_reducible exact Out.here _ | apply Out.there | apply Pick.cons | apply Pick.drop))) (fun wr27 hsr27 hsq27 => ?_)
              have hsz27 := hsr27
              refine rg_take (i := 1) (v := ?_) rfl (by kernel_rfl) (by kernel_rfl) (by kernel_rfl) (fun _ _ _ h => quit_put (P := Try.prog) (fn := Try.f10) rfl (by simp) (by simp) h) rfl (by assumption) ?_ ?_
              rotate_left
              · intro w hSw; (go_simp; first | done | with_reducible rfl | rfl | omega | assumption | (simp; omega))
              (try simp only [Act.put, aP, aZ, aS])
              refine rg_take (i := 3) (v := ?_) rfl (by kernel_rfl) (by kernel_rfl) (by kernel_rfl) (fun _ _ _ h => quit_put (P := Try.prog) (fn := Try.f10) rfl (by simp) (by simp) h) rfl (by assumption) ?_ ?_
              rotate_left
              · intro w hSw; (go_simp; first | done | with_reducible rfl | rfl | omega | assumption | (simp; omega))
              (try simp only [Act.put, aP, aZ, aS])
              refine rg_take (i := 4) (v := ?_) rfl (by kernel_rfl) (by kernel_rfl) (by kernel_rfl) (fun _ _ _ h => quit_put (P := Try.prog) (fn := Try.f10) rfl (by simp) (by simp) h) rfl (by assumption) ?_ ?_
              rotate_left
              · intro w hSw; ((with_reducible apply yl_load); assumption; rfl; (repeat (first | with_reducible assumption | ((with_reducible apply Cl.own); exact rfl) | ((with_reducible apply Cl.blkL); exact rfl) | with_reducible apply Cl.cons)); rfl)
              (try simp only [Act.put, aP, aZ, aS])
              refine rg_two (i := 0) (j := 2) (by kernel_rfl) rfl rfl rfl rfl (fun Kp hKp => ?_) (fun Kp hKp => ?_)
              · ((with_reducible apply st_load); assumption; rfl; (repeat (first | with_reducible assumption | ((with_reducible apply Cl.own); exact rfl) | ((with_reducible apply Cl.blkL); exact rfl) | with_reducible apply Cl.cons)))
                refine rg_back (hK := hKp) ?_ (fun hsk86 => ?_)
                · (first | assumption | (apply Sat.drew; assumption) | (apply Sat.pick; assumption; (repeat (first | exact Pick.nil _ | with_reducible exact Pick.tail _ | with_reducible exact Out.here _ | apply Out.there | apply Pick.cons | apply Pick.drop))))
                clear hKp Kp
                have hsz86 := hsr27
                (try simp only [Act.put, aP, aZ, aS])
                refine rg_one (i := 2) (by kernel_rfl) rfl rfl (fun Kp hKp => ?_)
                go_simp
                ((refine (bytes_m_spec _ (by omega) (by assumption) (by (repeat (first | with_reducible assumption | with_reducible exact Rd.own | with_reducible exact Rd.nil | with_reducible apply Rd.cons)))).mono ?_); rintro e88 w88 ⟨A88, c88, rfl, hs88⟩)
                (try go_wp2_with fail)
                refine rg_back (hK := hKp) ?_ (fun hsk88 => ?_)
                · (first | assumption | (apply Sat.drew; assumption) | (apply Sat.pick; assumption; (repeat (first | exact Pick.nil _ | with_reducible exact Pick.tail _ | with_reducible exact Out.here _ | apply Out.there | apply Pick.cons | apply Pick.drop))))
                clear hKp Kp
                have hsz88 := hs88
                (try simp only [Act.put, aP, aZ, aS])
                refine rg_one (i := 5) (by kernel_rfl) rfl rfl (fun Kp hKp => ?_)
                go_simp
                ((refine (bytes_m_spec _ (by omega) (by assumption) (by (repeat (first | with_reducible assumption | with_reducible exact Rd.own | with_reducible exact Rd.nil | with_reducible apply Rd.cons)))).mono ?_); rintro e91 w91 ⟨A91, c91, rfl, hs91⟩)
                (try go_wp2_with fail)
                refine rg_back (hK := hKp) ?_ (fun hsk91 => ?_)
                · (first | assumption | (apply Sat.drew; assumption) | (apply Sat.pick; assumption; (repeat (first | exact Pick.nil _ | with_reducible exact Pick.tail _ | with_reducible exact Out.here _ | apply Out.there | apply Pick.cons | apply Pick.drop))))
                clear hKp Kp
                have hsz91 := hs91
                (try simp only [Act.put, aP, aZ, aS])
                refine rg_one (i := 6) (by kernel_rfl) rfl rfl (fun Kp hKp => ?_)
                ((with_reducible apply st_buildSlice); assumption; rfl; (go_simp; rfl); (simp [Value.cells]); omega; intro b92 w92 hs92)
                refine rg_back (hK := hKp) ?_ (fun hsk92 => ?_)
                · (first | assumption | (apply Sat.drew; assumption) | (apply Sat.pick; assumption; (repeat (first | exact Pick.nil _ | with_reducible exact Pick.tail _ | with_reducible exact Out.here _ | apply Out.there | apply Pick.cons | apply Pick.drop))))
                clear hKp Kp
                have hsz92 := hs92
                (try simp only [Act.put, aP, aZ, aS])
                refine rg_one (i := 7) (by kernel_rfl) rfl rfl (fun Kp hKp => ?_)
                go_simp
                (refine (join_spec [acc ++ zy, text z, text dt] m Hm.out (by omega) (by omega) (by assumption) (RdBB.three (by simp only [B8_app]; (repeat (first | with_reducible assumption | with_reducible exact Rd.own | with_reducible exact Rd.nil | with_reducible apply Rd.cons))) (by (repeat (first | with_reducible assumption | with_reducible exact Rd.own | with_reducible exact Rd.nil | with_reducible apply Rd.cons))) (by (repeat (first | with_reducible assumption | with_reducible exact Rd.own | with_reducible exact Rd.nil | with_reducible apply Rd.cons))) (by simp) rfl rfl)).mono ?_; rintro e93 w93 ⟨A93, c93, rfl, hs93⟩)
                (try go_wp2_with fail)
                refine rg_back (hK := hKp) ?_ (fun hsk93 => ?_)
                · (first | assumption | (apply Sat.drew; assumption) | (apply Sat.pick; assumption; (repeat (first | exact Pick.nil _ | with_reducible exact Pick.tail _ | with_reducible exact Out.here _ | apply Out.there | apply Pick.cons | apply Pick.drop))))
                clear hKp Kp
                have hsz93 := hs93
                (try simp only [Act.put, aP, aZ, aS])
                refine rg_one (i := 8) (by kernel_rfl) rfl rfl (fun Kp hKp => ?_)
                (first | ((with_reducible apply st_store1); assumption; rfl; (go_simp; rfl); (repeat (first | with_reducible exact Out.here _ | apply Out.there)); rfl; rfl; simp; intro wr27_8 hsr27_8; (try simp only [aP] at hsr27_8); (try simp only [aS] at hsr27_8); (try simp only [aZ] at hsr27_8)) | ((with_reducible apply st_store_own); assumption; rfl; (go_simp; rfl); (repeat (first | with_reducible exact Out.here _ | apply Out.there)); rfl; rfl; omega; intro wr27_8 hsr27_8))
                refine rg_back (hK := hKp) ?_ (fun hskr27_8 => ?_)
                · (first | assumption | (apply Sat.drew; assumption) | (apply Sat.pick; assumption; (repeat (first | exact Pick.nil _ | with_reducible exact Pick.tail _ | with_reducible exact Out.here _ | apply Out.there | apply Pick.cons | apply Pick.drop))))
                clear hKp Kp
                have hszr27_8 := hsr27_8
                (try dsimp only [Act.put])
                refine rg_done (by kernel_rfl) ?_
                refine hK14.out _ _ ?_
                (try clear hK14 K14)
                refine wk_seq (fun K29 hK29 => ?_)
                refine wk_reg ?_
                refine pl_take (v := ?_) rfl ?_ ?_
                rotate_left
                · ((with_reducible apply yl_load); assumption; rfl; (repeat (first | with_reducible assumption | ((with_reducible apply Cl.own); exact rfl) | ((with_reducible apply Cl.blkL); exact rfl) | with_reducible apply Cl.cons)); rfl)
                (try simp only [Act.put, aP, aZ, aS])
                refine pl_eff rfl (fun Kp hKp => ?_)
                (first | ((with_reducible apply st_store1); assumption; rfl; (go_simp; rfl); (repeat (first | with_reducible exact Out.here _ | apply Out.there)); rfl; rfl; simp; intro wr28_1 hsr28_1; (try simp only [aP] at hsr28_1); (try simp only [aS] at hsr28_1); (try simp only [aZ] at hsr28_1)) | ((with_reducible apply st_store_own); assumption; rfl; (go_simp; rfl); (repeat (first | with_reducible exact Out.here _ | apply Out.there)); rfl; rfl; omega; intro wr28_1 hsr28_1))
                refine hKp.out _ _ ?_
                clear hKp Kp
                (try dsimp only [Act.put])
                refine pl_eff rfl (fun Kp hKp => ?_)
                (first | ((with_reducible apply st_store1); assumption; rfl; (go_simp; rfl); (repeat (first | with_reducible exact Out.here _ | apply Out.there)); rfl; rfl; simp; intro wr28_2 hsr28_2; (try simp only [aP] at hsr28_2); (try simp only [aS] at hsr28_2); (try simp only [aZ] at hsr28_2)) | ((with_reducible apply st_store_own); assumption; rfl; (go_simp; rfl); (repeat (first | with_reducible exact Out.here _ | apply Out.there)); rfl; rfl; omega; intro wr28_2 hsr28_2))
                refine hKp.out _ _ ?_
                clear hKp Kp
                (try dsimp only [Act.put])
                refine pl_done ?_
                refine hK29.out _ _ ?_
                (try clear hK29 K29)
                refine wp_ret ?_
                exact put_leaves (px := b2) (pe := b3) m rfl rfl (hsr28_2.pick (by (repeat (first | exact Pick.nil _ | exact Pick.tail _ | exact Out.here _ | apply Out.there | apply Pick.cons | apply Pick.drop))))
              · go_simp
                ((refine (bytes_m_spec _ (by omega) (by assumption) (by (repeat (first | with_reducible assumption | with_reducible exact Rd.own | with_reducible exact Rd.nil | with_reducible apply Rd.cons)))).mono ?_); rintro e88 w88 ⟨A88, c88, rfl, hs88⟩)
                (try go_wp2_with fail)
                refine rg_back (hK := hKp) ?_ (fun hsk88 => ?_)
                · (first | assumption | (apply Sat.drew; assumption) | (apply Sat.pick; assumption; (repeat (first | exact Pick.nil _ | with_reducible exact Pick.tail _ | with_reducible exact Out.here _ | apply Out.there | apply Pick.cons | apply Pick.drop))))
                clear hKp Kp
                have hsz88 := hs88
                (try simp only [Act.put, aP, aZ, aS])
                refine rg_two (i := 0) (j := 5) (by kernel_rfl) rfl rfl rfl rfl (fun Kp hKp => ?_) (fun Kp hKp => ?_)
                · ((with_reducible apply st_load); assumption; rfl; (repeat (first | with_reducible assumption | ((with_reducible apply Cl.own); exact rfl) | ((with_reducible apply Cl.blkL); exact rfl) | with_reducible apply Cl.cons)))
                  refine rg_back (hK := hKp) ?_ (fun hsk86 => ?_)
                  · (first | assumption | (apply Sat.drew; assumption) | (apply Sat.pick; assumption; (repeat (first | exact Pick.nil _ | with_reducible exact Pick.tail _ | with_reducible exact Out.here _ | apply Out.there | apply Pick.cons | apply Pick.drop))))
                  clear hKp Kp
                  have hsz86 := hs88
                  (try simp only [Act.put, aP, aZ, aS])
                  refine rg_one (i := 5) (by kernel_rfl) rfl rfl (fun Kp hKp => ?_)
                  go_simp
                  ((refine (bytes_m_spec _ (by omega) (by assumption) (by (repeat (first | with_reducible assumption | with_reducible exact Rd.own | with_reducible exact Rd.nil | with_reducible apply Rd.cons)))).mono ?_); rintro e91 w91 ⟨A91, c91, rfl, hs91⟩)
                  (try go_wp2_with fail)
                  refine rg_back (hK := hKp) ?_ (fun hsk91 => ?_)
                  · (first | assumption | (apply Sat.drew; assumption) | (apply Sat.pick; assumption; (repeat (first | exact Pick.nil _ | with_reducible exact Pick.tail _ | with_reducible exact Out.here _ | apply Out.there | apply Pick.cons | apply Pick.drop))))
                  clear hKp Kp
                  have hsz91 := hs91
                  (try simp only [Act.put, aP, aZ, aS])
                  refine rg_one (i := 6) (by kernel_rfl) rfl rfl (fun Kp hKp => ?_)
                  ((with_reducible apply st_buildSlice); assumption; rfl; (go_simp; rfl); (simp [Value.cells]); omega; intro b92 w92 hs92)
                  refine rg_back (hK := hKp) ?_ (fun hsk92 => ?_)
                  · (first | assumption | (apply Sat.drew; assumption) | (apply Sat.pick; assumption; (repeat (first | exact Pick.nil _ | with_reducible exact Pick.tail _ | with_reducible exact Out.here _ | apply Out.there | apply Pick.cons | apply Pick.drop))))
                  clear hKp Kp
                  have hsz92 := hs92
                  (try simp only [Act.put, aP, aZ, aS])
                  refine rg_one (i := 7) (by kernel_rfl) rfl rfl (fun Kp hKp => ?_)
                  go_simp
                  (refine (join_spec [acc ++ zy, text z, text dt] m Hm.out (by omega) (by omega) (by assumption) (RdBB.three (by simp only [B8_app]; (repeat (first | with_reducible assumption | with_reducible exact Rd.own | with_reducible exact Rd.nil | with_reducible apply Rd.cons))) (by (repeat (first | with_reducible assumption | with_reducible exact Rd.own | with_reducible exact Rd.nil | with_reducible apply Rd.cons))) (by (repeat (first | with_reducible assumption | with_reducible exact Rd.own | with_reducible exact Rd.nil | with_reducible apply Rd.cons))) (by simp) rfl rfl)).mono ?_; rintro e93 w93 ⟨A93, c93, rfl, hs93⟩)
                  (try go_wp2_with fail)
                  refine rg_back (hK := hKp) ?_ (fun hsk93 => ?_)
                  · (first | assumption | (apply Sat.drew; assumption) | (apply Sat.pick; assumption; (repeat (first | exact Pick.nil _ | with_reducible exact Pick.tail _ | with_reducible exact Out.here _ | apply Out.there | apply Pick.cons | apply Pick.drop))))
                  clear hKp Kp
                  have hsz93 := hs93
                  (try simp only [Act.put, aP, aZ, aS])
                  refine rg_one (i := 8) (by kernel_rfl) rfl rfl (fun Kp hKp => ?_)
                  (first | ((with_reducible apply st_store1); assumption; rfl; (go_simp; rfl); (repeat (first | with_reducible exact Out.here _ | apply Out.there)); rfl; rfl; simp; intro wr27_8 hsr27_8; (try simp only [aP] at hsr27_8); (try simp only [aS] at hsr27_8); (try simp only [aZ] at hsr27_8)) | ((with_reducible apply st_store_own); assumption; rfl; (go_simp; rfl); (repeat (first | with_reducible exact Out.here _ | apply Out.there)); rfl; rfl; omega; intro wr27_8 hsr27_8))
                  refine rg_back (hK := hKp) ?_ (fun hskr27_8 => ?_)
                  · (first | assumption | (apply Sat.drew; assumption) | (apply Sat.pick; assumption; (repeat (first | exact Pick.nil _ | with_reducible exact Pick.tail _ | with_reducible exact Out.here _ | apply Out.there | apply Pick.cons | apply Pick.drop))))
                  clear hKp Kp
                  have hszr27_8 := hsr27_8
                  (try dsimp only [Act.put])
                  refine rg_done (by kernel_rfl) ?_
                  refine hK14.out _ _ ?_
                  (try clear hK14 K14)
                  refine wk_seq (fun K29 hK29 => ?_)
                  refine wk_reg ?_
                  refine pl_take (v := ?_) rfl ?_ ?_
                  rotate_left
                  · ((with_reducible apply yl_load); assumption; rfl; (repeat (first | with_reducible assumption | ((with_reducible apply Cl.own); exact rfl) | ((with_reducible apply Cl.blkL); exact rfl) | with_reducible apply Cl.cons)); rfl)
                  (try simp only [Act.put, aP, aZ, aS])
                  refine pl_eff rfl (fun Kp hKp => ?_)
                  (first | ((with_reducible apply st_store1); assumption; rfl; (go_simp; rfl); (repeat (first | with_reducible exact Out.here _ | apply Out.there)); rfl; rfl; simp; intro wr28_1 hsr28_1; (try simp only [aP] at hsr28_1); (try simp only [aS] at hsr28_1); (try simp only [aZ] at hsr28_1)) | ((with_reducible apply st_store_own); assumption; rfl; (go_simp; rfl); (repeat (first | with_reducible exact Out.here _ | apply Out.there)); rfl; rfl; omega; intro wr28_1 hsr28_1))
                  refine hKp.out _ _ ?_
                  clear hKp Kp
                  (try dsimp only [Act.put])
                  refine pl_eff rfl (fun Kp hKp => ?_)
                  (first | ((with_reducible apply st_store1); assumption; rfl; (go_simp; rfl); (repeat (first | with_reducible exact Out.here _ | apply Out.there)); rfl; rfl; simp; intro wr28_2 hsr28_2; (try simp only [aP] at hsr28_2); (try simp only [aS] at hsr28_2); (try simp only [aZ] at hsr28_2)) | ((with_reducible apply st_store_own); assumption; rfl; (go_simp; rfl); (repeat (first | with_reducible exact Out.here _ | apply Out.there)); rfl; rfl; omega; intro wr28_2 hsr28_2))
                  refine hKp.out _ _ ?_
                  clear hKp Kp
                  (try dsimp only [Act.put])
                  refine pl_done ?_
                  refine hK29.out _ _ ?_
                  (try clear hK29 K29)
                  refine wp_ret ?_
                  exact put_leaves (px := b2) (pe := b3) m rfl rfl (hsr28_2.pick (by (repeat (first | exact Pick.nil _ | exact Pick.tail _ | exact Out.here _ | apply Out.there | apply Pick.cons | apply Pick.drop))))
                · go_simp
                  ((refine (bytes_m_spec _ (by omega) (by assumption) (by (repeat (first | with_reducible assumption | with_reducible exact Rd.own | with_reducible exact Rd.nil | with_reducible apply Rd.cons)))).mono ?_); rintro e91 w91 ⟨A91, c91, rfl, hs91⟩)
                  (try go_wp2_with fail)
                  refine rg_back (hK := hKp) ?_ (fun hsk91 => ?_)
                  · (first | assumption | (apply Sat.drew; assumption) | (apply Sat.pick; assumption; (repeat (first | exact Pick.nil _ | with_reducible exact Pick.tail _ | with_reducible exact Out.here _ | apply Out.there | apply Pick.cons | apply Pick.drop))))
                  clear hKp Kp
                  have hsz91 := hs91
                  (try simp only [Act.put, aP, aZ, aS])
                  refine rg_one (i := 0) (by kernel_rfl) rfl rfl (fun Kp hKp => ?_)
                  ((with_reducible apply st_load); assumption; rfl; (repeat (first | with_reducible assumption | ((with_reducible apply Cl.own); exact rfl) | ((with_reducible apply Cl.blkL); exact rfl) | with_reducible apply Cl.cons)))
                  refine rg_back (hK := hKp) ?_ (fun hsk86 => ?_)
                  · (first | assumption | (apply Sat.drew; assumption) | (apply Sat.pick; assumption; (repeat (first | exact Pick.nil _ | with_reducible exact Pick.tail _ | with_reducible exact Out.here _ | apply Out.there | apply Pick.cons | apply Pick.drop))))
                  clear hKp Kp
                  have hsz86 := hs91
                  (try simp only [Act.put, aP, aZ, aS])
                  refine rg_one (i := 6) (by kernel_rfl) rfl rfl (fun Kp hKp => ?_)
                  ((with_reducible apply st_buildSlice); assumption; rfl; (go_simp; rfl); (simp [Value.cells]); omega; intro b92 w92 hs92)
                  refine rg_back (hK := hKp) ?_ (fun hsk92 => ?_)
                  · (first | assumption | (apply Sat.drew; assumption) | (apply Sat.pick; assumption; (repeat (first | exact Pick.nil _ | with_reducible exact Pick.tail _ | with_reducible exact Out.here _ | apply Out.there | apply Pick.cons | apply Pick.drop))))
                  clear hKp Kp
                  have hsz92 := hs92
                  (try simp only [Act.put, aP, aZ, aS])
                  refine rg_one (i := 7) (by kernel_rfl) rfl rfl (fun Kp hKp => ?_)
                  go_simp
                  (refine (join_spec [acc ++ zy, text z, text dt] m Hm.out (by omega) (by omega) (by assumption) (RdBB.three (by simp only [B8_app]; (repeat (first | with_reducible assumption | with_reducible exact Rd.own | with_reducible exact Rd.nil | with_reducible apply Rd.cons))) (by (repeat (first | with_reducible assumption | with_reducible exact Rd.own | with_reducible exact Rd.nil | with_reducible apply Rd.cons))) (by (repeat (first | with_reducible assumption | with_reducible exact Rd.own | with_reducible exact Rd.nil | with_reducible apply Rd.cons))) (by simp) rfl rfl)).mono ?_; rintro e93 w93 ⟨A93, c93, rfl, hs93⟩)
                  (try go_wp2_with fail)
                  refine rg_back (hK := hKp) ?_ (fun hsk93 => ?_)
                  · (first | assumption | (apply Sat.drew; assumption) | (apply Sat.pick; assumption; (repeat (first | exact Pick.nil _ | with_reducible exact Pick.tail _ | with_reducible exact Out.here _ | apply Out.there | apply Pick.cons | apply Pick.drop))))
                  clear hKp Kp
                  have hsz93 := hs93
                  (try simp only [Act.put, aP, aZ, aS])
                  refine rg_one (i := 8) (by kernel_rfl) rfl rfl (fun Kp hKp => ?_)
                  (first | ((with_reducible apply st_store1); assumption; rfl; (go_simp; rfl); (repeat (first | with_reducible exact Out.here _ | apply Out.there)); rfl; rfl; simp; intro wr27_8 hsr27_8; (try simp only [aP] at hsr27_8); (try simp only [aS] at hsr27_8); (try simp only [aZ] at hsr27_8)) | ((with_reducible apply st_store_own); assumption; rfl; (go_simp; rfl); (repeat (first | with_reducible exact Out.here _ | apply Out.there)); rfl; rfl; omega; intro wr27_8 hsr27_8))
                  refine rg_back (hK := hKp) ?_ (fun hskr27_8 => ?_)
                  · (first | assumption | (apply Sat.drew; assumption) | (apply Sat.pick; assumption; (repeat (first | exact Pick.nil _ | with_reducible exact Pick.tail _ | with_reducible exact Out.here _ | apply Out.there | apply Pick.cons | apply Pick.drop))))
                  clear hKp Kp
                  have hszr27_8 := hsr27_8
                  (try dsimp only [Act.put])
                  refine rg_done (by kernel_rfl) ?_
                  refine hK14.out _ _ ?_
                  (try clear hK14 K14)
                  refine wk_seq (fun K29 hK29 => ?_)
                  refine wk_reg ?_
                  refine pl_take (v := ?_) rfl ?_ ?_
                  rotate_left
                  · ((with_reducible apply yl_load); assumption; rfl; (repeat (first | with_reducible assumption | ((with_reducible apply Cl.own); exact rfl) | ((with_reducible apply Cl.blkL); exact rfl) | with_reducible apply Cl.cons)); rfl)
                  (try simp only [Act.put, aP, aZ, aS])
                  refine pl_eff rfl (fun Kp hKp => ?_)
                  (first | ((with_reducible apply st_store1); assumption; rfl; (go_simp; rfl); (repeat (first | with_reducible exact Out.here _ | apply Out.there)); rfl; rfl; simp; intro wr28_1 hsr28_1; (try simp only [aP] at hsr28_1); (try simp only [aS] at hsr28_1); (try simp only [aZ] at hsr28_1)) | ((with_reducible apply st_store_own); assumption; rfl; (go_simp; rfl); (repeat (first | with_reducible exact Out.here _ | apply Out.there)); rfl; rfl; omega; intro wr28_1 hsr28_1))
                  refine hKp.out _ _ ?_
                  clear hKp Kp
                  (try dsimp only [Act.put])
                  refine pl_eff rfl (fun Kp hKp => ?_)
                  (first | ((with_reducible apply st_store1); assumption; rfl; (go_simp; rfl); (repeat (first | with_reducible exact Out.here _ | apply Out.there)); rfl; rfl; simp; intro wr28_2 hsr28_2; (try simp only [aP] at hsr28_2); (try simp only [aS] at hsr28_2); (try simp only [aZ] at hsr28_2)) | ((with_reducible apply st_store_own); assumption; rfl; (go_simp; rfl); (repeat (first | with_reducible exact Out.here _ | apply Out.there)); rfl; rfl; omega; intro wr28_2 hsr28_2))
                  refine hKp.out _ _ ?_
                  clear hKp Kp
                  (try dsimp only [Act.put])
                  refine pl_done ?_
                  refine hK29.out _ _ ?_
                  (try clear hK29 K29)
                  refine wp_ret ?_
                  exact put_leaves (px := b2) (pe := b3) m rfl rfl (hsr28_2.pick (by (repeat (first | exact Pick.nil _ | exact Pick.tail _ | exact Out.here _ | apply Out.there | apply Pick.cons | apply Pick.drop))))
          · obtain rfl : X = (acc ++ zy, 0) := by
              rw [HXb.out, if_pos (Hrm.out.2 ⟨HRt.out, by rw [e0]; rfl, fun h => absurd h k5⟩)]
              simp only [msgTail, if_neg k3, if_neg k5, List.append_nil]
            clear e0 HXb Hrm HRt
            refine hK11.out _ _ ?_
            clear hK11 K11
            refine wk_seq (fun K13 hK13 => ?_)
            refine wk_reg ?_
            iterate 2 (refine pl_take (v := ?_) rfl ?_ ?_; rotate_left; (· (first | ((with_reducible apply yl_load); assumption; rfl; (repeat (first | with_reducible assumption | ((with_reducible apply Cl.own); exact rfl) | ((with_reducible apply Cl.blkL); exact rfl) | with_reducible apply Cl.cons)); rfl) | (go_simp; first | done | with_reducible rfl | rfl | omega | assumption | (simp; omega)))); (try simp only [Act.put, aP, aZ, aS]))
            refine pl_eff rfl (fun Kp hKp => ?_)
            ((with_reducible apply st_append); go_must (assumption; rfl; rfl; (repeat (first | with_reducible exact Out.here _ | apply Out.there)); (repeat (first | with_reducible assumption | with_reducible exact Rd.own | with_reducible exact Rd.nil | with_reducible apply Rd.cons)); (first | exact B8_one _ | exact I8_one _ | (simp [Value.oneCell'])); (first | omega | (simp only [maxLen]; omega)); omega; intro A40 c40 w40 hs40 hc40; (try ((refine hs40.own_elim ?_ ?_); omega; rintro g40 rfl)); try simp only [Nat.zero_add, List.nil_append] at hs40 hc40))
            refine hKp.out _ _ ?_
            clear hKp Kp
            (try simp only [Act.put, aP, aZ, aS])
            refine pl_eff rfl (fun Kp hKp => ?_)
            (first | ((with_reducible apply st_store1); assumption; rfl; (go_simp; rfl); (repeat (first | with_reducible exact Out.here _ | apply Out.there)); rfl; rfl; simp; intro wr12_3 hsr12_3; (try simp only [aP] at hsr12_3); (try simp only [aS] at hsr12_3); (try simp only [aZ] at hsr12_3)) | ((with_reducible apply st_store_own); assumption; rfl; (go_simp; rfl); (repeat (first | with_reducible exact Out.here _ | apply Out.there)); rfl; rfl; omega; intro wr12_3 hsr12_3))
            refine hKp.out _ _ ?_
            clear hKp Kp
            (try dsimp only [Act.put])
            refine pl_done ?_
            refine hK13.out _ _ ?_
            (try clear hK13 K13)
            refine wk_seq (fun K14 hK14 => ?_)
            refine wk_seq (fun K15 hK15 => ?_)
            refine wk_reg ?_
            iterate 2 (refine pl_take (v := ?_) rfl ?_ ?_; rotate_left; (· (first | ((with_reducible apply yl_load); assumption; rfl; (repeat (first | with_reducible assumption | ((with_reducible apply Cl.own); exact rfl) | ((with_reducible apply Cl.blkL); exact rfl) | with_reducible apply Cl.cons)); rfl) | (go_simp; first | done | with_reducible rfl | rfl | omega | assumption | (simp; omega)))); (try simp only [Act.put, aP, aZ, aS]))
            refine pl_done ?_
            refine hK15.out _ _ ?_
            (try clear hK15 K15)
            refine wp_block ?_
            refine wk_seq (fun K16 hK16 => ?_)
            refine wk_reg ?_
            refine pl_take (v := ?_) rfl ?_ ?_
            rotate_left
            · (go_simp; first | done | with_reducible rfl | rfl | omega | assumption | (simp; omega))
            (try simp only [Act.put, aP, aZ, aS])
            refine pl_take (v := .bool false) rfl ?_ ?_
            · (go_simp; first | done | with_reducible rfl | rfl | omega | assumption | (simp; omega))
            (try simp only [Act.put, aP, aZ, aS])
            refine pl_done ?_
            refine hK16.out _ _ ?_
            (try clear hK16 K16)
            refine wp_cond_false rfl ?_
            refine wk_seq (fun K26 hK26 => ?_)
            refine wk_reg ?_
            refine pl_take (v := ?_) rfl ?_ ?_
            rotate_left
            · (go_simp; first | done | with_reducible rfl | rfl | omega | assumption | (simp; omega))
            (try simp only [Act.put, aP, aZ, aS])
            refine pl_take (v := .bool false) rfl ?_ ?_
            · (go_simp; first | done | with_reducible rfl | rfl | omega | assumption | (simp; omega))
            (try simp only [Act.put, aP, aZ, aS])
            refine pl_done ?_
            refine hK26.out _ _ ?_
            (try clear hK26 K26)
            refine wp_cond_false rfl ?_
            refine wp_skip ?_
            refine hK14.out _ _ ?_
            (try clear hK14 K14)
            refine wk_seq (fun K29 hK29 => ?_)
            refine wk_reg ?_
            refine pl_take (v := ?_) rfl ?_ ?_
            rotate_left
            · ((with_reducible apply yl_load); assumption; rfl; (repeat (first | with_reducible assumption | ((with_reducible apply Cl.own); exact rfl) | ((with_reducible apply Cl.blkL); exact rfl) | with_reducible apply Cl.cons)); rfl)
            (try simp only [Act.put, aP, aZ, aS])
            refine pl_eff rfl (fun Kp hKp => ?_)
            (first | ((with_reducible apply st_store1); assumption; rfl; (go_simp; rfl); (repeat (first | with_reducible exact Out.here _ | apply Out.there)); rfl; rfl; simp; intro wr28_1 hsr28_1; (try simp only [aP] at hsr28_1); (try simp only [aS] at hsr28_1); (try simp only [aZ] at hsr28_1)) | ((with_reducible apply st_store_own); assumption; rfl; (go_simp; rfl); (repeat (first | with_reducible exact Out.here _ | apply Out.there)); rfl; rfl; omega; intro wr28_1 hsr28_1))
            refine hKp.out _ _ ?_
            clear hKp Kp
            (try dsimp only [Act.put])
            refine pl_eff rfl (fun Kp hKp => ?_)
            (first | ((with_reducible apply st_store1); assumption; rfl; (go_simp; rfl); (repeat (first | with_reducible exact Out.here _ | apply Out.there)); rfl; rfl; simp; intro wr28_2 hsr28_2; (try simp only [aP] at hsr28_2); (try simp only [aS] at hsr28_2); (try simp only [aZ] at hsr28_2)) | ((with_reducible apply st_store_own); assumption; rfl; (go_simp; rfl); (repeat (first | with_reducible exact Out.here _ | apply Out.there)); rfl; rfl; omega; intro wr28_2 hsr28_2))
            refine hKp.out _ _ ?_
            clear hKp Kp
            (try dsimp only [Act.put])
            refine pl_done ?_
            refine hK29.out _ _ ?_
            (try clear hK29 K29)
            refine wp_ret ?_
            exact put_leaves (px := b2) (pe := b3) (acc ++ zy) rfl rfl (hsr28_2.pick (by simp only [List.length_append, B8_app]; (repeat (first | exact Pick.nil _ | exact Pick.tail _ | exact Out.here _ | apply Out.there | apply Pick.cons | apply Pick.drop))))
end Go.Proofs.Ytcedbmcnjckajaa
