/-
  Messages: Same of the laws.
-/
import Derived.Test.YtcedbmcnjckajaaMsg4
import Derived.Test.YtcedbmcnjckajaaSrv2
namespace Go.Proofs.Ytcedbmcnjckajaa
open Go Go.RowKit Sl Go.Shelf
set_option maxHeartbeats 20000000
set_option maxRecDepth 8000


theorem ints4_spec {w0 w : World} {L : List HP} {A B : Option Addr} {c d : Nat} {xs ys : List Int} (h1 : xs.length ≤ 1048576) (h2 : ys.length ≤ 1048576) (hs : Sat w0 w L) (ha : Rd w0 L A xs.length 1 (I8 xs)) (hb : Rd w0 L B ys.length 1 (I8 ys)) :
    Calls Try.prog 36 #[.slice A xs.length c, .slice B ys.length d] w (RetB w0 L (decide (xs = ys))) :=
  ints_spec xs ys (Hid.mk' rfl) (Hid.mk' rfl) (by omega) (by omega) hs ha hb

theorem same4_spec {w0 w : World} {L : List HP} {A B C A' B' C' : Option Addr} {ca cb cc ca' cb' cc' : Nat} (kd fr dn tm na nb nc nd kd' fr' dn' tm' na' nb' nc' nd' : Int) (yes yes' : Bool) (es es' : List Ent) (sv sv' : List Int) (dt dt' : List UInt8) (b : Bool)
    (hb : b = true ↔ (⟨kd, fr, dn, tm, na, nb, nc, nd, yes, es, sv, dt⟩ : Msg) = ⟨kd', fr', dn', tm', na', nb', nc', nd', yes', es', sv', dt'⟩)
    (he : es.length ≤ 1048576) (he' : es'.length ≤ 1048576) (hv : sv.length ≤ 1048576) (hv' : sv'.length ≤ 1048576) (hs : Sat w0 w L)
    (hE : SlV EntV 4 (Rd w0 L) [.slice A es.length ca] es) (hB : Rd w0 L B sv.length 1 (I8 sv)) (hC : Rd w0 L C dt.length 1 (B8 dt))
    (hE' : SlV EntV 4 (Rd w0 L) [.slice A' es'.length ca'] es') (hB' : Rd w0 L B' sv'.length 1 (I8 sv')) (hC' : Rd w0 L C' dt'.length 1 (B8 dt')) :
    Calls Try.prog 13 #[.agg #[.int .i64 kd, .int .i64 fr, .int .i64 dn, .int .i64 tm, .int .i64 na, .int .i64 nb, .int .i64 nc, .int .i64 nd, .bool yes, .slice A es.length ca, .slice B sv.length cb, .slice C dt.length cc],
      .agg #[.int .i64 kd', .int .i64 fr', .int .i64 dn', .int .i64 tm', .int .i64 na', .int .i64 nb', .int .i64 nc', .int .i64 nd', .bool yes', .slice A' es'.length ca', .slice B' sv'.length cb', .slice C' dt'.length cc']] w (RetB w0 L b) := by
  have Hb := Hid.mk' hb
  clear hb
  obtain ⟨Z, cz, vs, he1, hRv, hvl, hel⟩ := hE
  simp only [List.cons.injEq, Value.slice.injEq, and_true, true_and] at he1
  obtain ⟨rfl, rfl⟩ := he1
  obtain ⟨Z', cz', vs', he2, hRv', hvl', hel'⟩ := hE'
  simp only [List.cons.injEq, Value.slice.injEq, and_true, true_and] at he2
  obtain ⟨rfl, rfl⟩ := he2
  go_enter Try.func13, Try.ntmps13
  refine wk_seq (fun K0 hK0 => ?_)
  refine wk_reg ?_
  refine pl_eff rfl (fun Kp hKp => ?_)
  ((with_reducible apply st_box); assumption; (go_simp; rfl); intro b2 w2 hs2; simp only [Value.cells] at hs2)
  refine hKp.out _ _ ?_
  clear hKp Kp
  (try simp only [Act.put, aP, aZ, aS])
  refine pl_eff rfl (fun Kp hKp => ?_)
  ((with_reducible apply st_box); assumption; (go_simp; rfl); intro b3 w3 hs3; simp only [Value.cells] at hs3)
  refine hKp.out _ _ ?_
  clear hKp Kp
  (try simp only [Act.put, aP, aZ, aS])
  refine pl_take (v := .bool false) rfl ?_ ?_
  · (go_simp; first | done | with_reducible rfl | rfl | omega | assumption | (simp; omega))
  (try simp only [Act.put, aP, aZ, aS])
  refine pl_done ?_
  refine hK0.out _ _ ?_
  (try clear hK0 K0)
  refine wk_seq (fun K1 hK1 => ?_)
  refine wk_seq (fun K2 hK2 => ?_)
  refine wk_reg ?_
  simp only [List.append_eq, List.cons_append, List.nil_append]
  iterate 4 (refine pl_take (v := ?_) rfl ?_ ?_; rotate_left; (· (first | ((with_reducible apply yl_load); assumption; rfl; (repeat (first | with_reducible assumption | ((with_reducible apply Cl.own); exact rfl) | ((with_reducible apply Cl.blkL); exact rfl) | with_reducible apply Cl.cons)); rfl) | (go_simp; first | done | with_reducible rfl | rfl | omega | assumption | (simp; omega)))); (try simp only [Act.put, aP, aZ, aS]))
  by_cases k0 : kd ≠ kd'
  · refine pl_take (v := .bool true) rfl ?_ ?_
    · (go_simp; first | done | with_reducible rfl | rfl | omega | assumption | (simp; omega))
    (try simp only [Act.put, aP, aZ, aS])
    refine pl_take (v := .bool true) rfl ?_ ?_
    · (go_simp; first | done | with_reducible rfl | rfl | omega | assumption | (simp; omega))
    (try simp only [Act.put, aP, aZ, aS])
    iterate 5 (refine pl_skip (by kernel_rfl) ?_; (try simp only [Act.put, aP, aZ, aS]))
    iterate 2 (refine pl_take (v := .bool true) rfl ?_ ?_; (· (go_simp; first | done | with_reducible rfl | rfl | omega | assumption | (simp; omega))); (try simp only [Act.put, aP, aZ, aS]))
    iterate 5 (refine pl_skip (by kernel_rfl) ?_; (try simp only [Act.put, aP, aZ, aS]))
    iterate 2 (refine pl_take (v := .bool true) rfl ?_ ?_; (· (go_simp; first | done | with_reducible rfl | rfl | omega | assumption | (simp; omega))); (try simp only [Act.put, aP, aZ, aS]))
    iterate 5 (refine pl_skip (by kernel_rfl) ?_; (try simp only [Act.put, aP, aZ, aS]))
    iterate 2 (refine pl_take (v := .bool true) rfl ?_ ?_; (· (go_simp; first | done | with_reducible rfl | rfl | omega | assumption | (simp; omega))); (try simp only [Act.put, aP, aZ, aS]))
    iterate 5 (refine pl_skip (by kernel_rfl) ?_; (try simp only [Act.put, aP, aZ, aS]))
    iterate 2 (refine pl_take (v := .bool true) rfl ?_ ?_; (· (go_simp; first | done | with_reducible rfl | rfl | omega | assumption | (simp; omega))); (try simp only [Act.put, aP, aZ, aS]))
    iterate 5 (refine pl_skip (by kernel_rfl) ?_; (try simp only [Act.put, aP, aZ, aS]))
    iterate 2 (refine pl_take (v := .bool true) rfl ?_ ?_; (· (go_simp; first | done | with_reducible rfl | rfl | omega | assumption | (simp; omega))); (try simp only [Act.put, aP, aZ, aS]))
    iterate 5 (refine pl_skip (by kernel_rfl) ?_; (try simp only [Act.put, aP, aZ, aS]))
    iterate 2 (refine pl_take (v := .bool true) rfl ?_ ?_; (· (go_simp; first | done | with_reducible rfl | rfl | omega | assumption | (simp; omega))); (try simp only [Act.put, aP, aZ, aS]))
    iterate 5 (refine pl_skip (by kernel_rfl) ?_; (try simp only [Act.put, aP, aZ, aS]))
    iterate 2 (refine pl_take (v := .bool true) rfl ?_ ?_; (· (go_simp; first | done | with_reducible rfl | rfl | omega | assumption | (simp; omega))); (try simp only [Act.put, aP, aZ, aS]))
    iterate 5 (refine pl_skip (by kernel_rfl) ?_; (try simp only [Act.put, aP, aZ, aS]))
    iterate 2 (refine pl_take (v := .bool true) rfl ?_ ?_; (· (go_simp; first | done | with_reducible rfl | rfl | omega | assumption | (simp; omega))); (try simp only [Act.put, aP, aZ, aS]))
    iterate 6 (refine pl_skip (by kernel_rfl) ?_; (try simp only [Act.put, aP, aZ, aS]))
    iterate 2 (refine pl_take (v := .bool true) rfl ?_ ?_; (· (go_simp; first | done | with_reducible rfl | rfl | omega | assumption | (simp; omega))); (try simp only [Act.put, aP, aZ, aS]))
    iterate 7 (refine pl_skip (by kernel_rfl) ?_; (try simp only [Act.put, aP, aZ, aS]))
    iterate 2 (refine pl_take (v := .bool true) rfl ?_ ?_; (· (go_simp; first | done | with_reducible rfl | rfl | omega | assumption | (simp; omega))); (try simp only [Act.put, aP, aZ, aS]))
    iterate 7 (refine pl_skip (by kernel_rfl) ?_; (try simp only [Act.put, aP, aZ, aS]))
    refine pl_take (v := .bool true) rfl ?_ ?_
    · (go_simp; first | done | with_reducible rfl | rfl | omega | assumption | (simp; omega))
    (try simp only [Act.put, aP, aZ, aS])
    refine pl_done ?_
    refine hK2.out _ _ ?_
    (try clear hK2 K2)
    refine wp_cond_true rfl ?_
    refine wk_seq (fun K3 hK3 => ?_)
    refine wk_reg ?_
    refine pl_take (v := .bool false) rfl ?_ ?_
    · (go_simp; first | done | with_reducible rfl | rfl | omega | assumption | (simp; omega))
    (try simp only [Act.put, aP, aZ, aS])
    refine pl_done ?_
    refine hK3.out _ _ ?_
    (try clear hK3 K3)
    refine wp_ret ?_
    go_ret
    exact ⟨by (cases b with | false => rfl | true => (exfalso; have hh := Hb.out.1 rfl; simp only [Msg.mk.injEq] at hh; obtain ⟨e0, e1, e2, e3, e4, e5, e6, e7, e8, e9, e10, e11⟩ := hh; first | exact k0 e0 | exact k1 e1 | exact k2 e2 | exact k3 e3 | exact k4 e4 | exact k5 e5 | exact k6 e6 | exact k7 e7 | (subst e8; simp at k8; done) | (subst e10; simp at k9; done) | (subst e11; simp at k10; done) | (subst e9; simp at k11; done))), (by assumption : Sat w0 _ _).pick (by (repeat (first | exact Pick.nil _ | exact Pick.tail _ | exact Out.here _ | apply Out.there | apply Pick.cons | apply Pick.drop)))⟩
  iterate 2 (refine pl_take (v := .bool false) rfl ?_ ?_; (· (go_simp; first | done | with_reducible rfl | rfl | omega | assumption | (simp; omega))); (try simp only [Act.put, aP, aZ, aS]))
  iterate 4 (refine pl_take (v := ?_) (by kernel_rfl) ?_ ?_; rotate_left; (· (first | ((with_reducible apply yl_load); assumption; rfl; (repeat (first | with_reducible assumption | ((with_reducible apply Cl.own); exact rfl) | ((with_reducible apply Cl.blkL); exact rfl) | with_reducible apply Cl.cons)); rfl) | (go_simp; first | done | with_reducible rfl | rfl | omega | assumption | (simp; omega)))); (try simp only [Act.put, aP, aZ, aS]))
  by_cases k1 : fr ≠ fr'
  · refine pl_take (v := .bool true) (by kernel_rfl) ?_ ?_
    · (go_simp; first | done | with_reducible rfl | rfl | omega | assumption | (simp; omega))
    (try simp only [Act.put, aP, aZ, aS])
    iterate 2 (refine pl_take (v := .bool true) rfl ?_ ?_; (· (go_simp; first | done | with_reducible rfl | rfl | omega | assumption | (simp; omega))); (try simp only [Act.put, aP, aZ, aS]))
    iterate 5 (refine pl_skip (by kernel_rfl) ?_; (try simp only [Act.put, aP, aZ, aS]))
    iterate 2 (refine pl_take (v := .bool true) rfl ?_ ?_; (· (go_simp; first | done | with_reducible rfl | rfl | omega | assumption | (simp; omega))); (try simp only [Act.put, aP, aZ, aS]))
    iterate 5 (refine pl_skip (by kernel_rfl) ?_; (try simp only [Act.put, aP, aZ, aS]))
    iterate 2 (refine pl_take (v := .bool true) rfl ?_ ?_; (· (go_simp; first | done | with_reducible rfl | rfl | omega | assumption | (simp; omega))); (try simp only [Act.put, aP, aZ, aS]))
    iterate 5 (refine pl_skip (by kernel_rfl) ?_; (try simp only [Act.put, aP, aZ, aS]))
    iterate 2 (refine pl_take (v := .bool true) rfl ?_ ?_; (· (go_simp; first | done | with_reducible rfl | rfl | omega | assumption | (simp; omega))); (try simp only [Act.put, aP, aZ, aS]))
    iterate 5 (refine pl_skip (by kernel_rfl) ?_; (try simp only [Act.put, aP, aZ, aS]))
    iterate 2 (refine pl_take (v := .bool true) rfl ?_ ?_; (· (go_simp; first | done | with_reducible rfl | rfl | omega | assumption | (simp; omega))); (try simp only [Act.put, aP, aZ, aS]))
    iterate 5 (refine pl_skip (by kernel_rfl) ?_; (try simp only [Act.put, aP, aZ, aS]))
    iterate 2 (refine pl_take (v := .bool true) rfl ?_ ?_; (· (go_simp; first | done | with_reducible rfl | rfl | omega | assumption | (simp; omega))); (try simp only [Act.put, aP, aZ, aS]))
    iterate 5 (refine pl_skip (by kernel_rfl) ?_; (try simp only [Act.put, aP, aZ, aS]))
    iterate 2 (refine pl_take (v := .bool true) rfl ?_ ?_; (· (go_simp; first | done | with_reducible rfl | rfl | omega | assumption | (simp; omega))); (try simp only [Act.put, aP, aZ, aS]))
    iterate 5 (refine pl_skip (by kernel_rfl) ?_; (try simp only [Act.put, aP, aZ, aS]))
    iterate 2 (refine pl_take (v := .bool true) rfl ?_ ?_; (· (go_simp; first | done | with_reducible rfl | rfl | omega | assumption | (simp; omega))); (try simp only [Act.put, aP, aZ, aS]))
    iterate 6 (refine pl_skip (by kernel_rfl) ?_; (try simp only [Act.put, aP, aZ, aS]))
    iterate 2 (refine pl_take (v := .bool true) rfl ?_ ?_; (· (go_simp; first | done | with_reducible rfl | rfl | omega | assumption | (simp; omega))); (try simp only [Act.put, aP, aZ, aS]))
    iterate 7 (refine pl_skip (by kernel_rfl) ?_; (try simp only [Act.put, aP, aZ, aS]))
    iterate 2 (refine pl_take (v := .bool true) rfl ?_ ?_; (· (go_simp; first | done | with_reducible rfl | rfl | omega | assumption | (simp; omega))); (try simp only [Act.put, aP, aZ, aS]))
    iterate 7 (refine pl_skip (by kernel_rfl) ?_; (try simp only [Act.put, aP, aZ, aS]))
    refine pl_take (v := .bool true) rfl ?_ ?_
    · (go_simp; first | done | with_reducible rfl | rfl | omega | assumption | (simp; omega))
    (try simp only [Act.put, aP, aZ, aS])
    refine pl_done ?_
    refine hK2.out _ _ ?_
    (try clear hK2 K2)
    refine wp_cond_true rfl ?_
    refine wk_seq (fun K3 hK3 => ?_)
    refine wk_reg ?_
    refine pl_take (v := .bool false) rfl ?_ ?_
    · (go_simp; first | done | with_reducible rfl | rfl | omega | assumption | (simp; omega))
    (try simp only [Act.put, aP, aZ, aS])
    refine pl_done ?_
    refine hK3.out _ _ ?_
    (try clear hK3 K3)
    refine wp_ret ?_
    go_ret
    exact ⟨by (cases b with | false => rfl | true => (exfalso; have hh := Hb.out.1 rfl; simp only [Msg.mk.injEq] at hh; obtain ⟨e0, e1, e2, e3, e4, e5, e6, e7, e8, e9, e10, e11⟩ := hh; first | exact k0 e0 | exact k1 e1 | exact k2 e2 | exact k3 e3 | exact k4 e4 | exact k5 e5 | exact k6 e6 | exact k7 e7 | (subst e8; simp at k8; done) | (subst e10; simp at k9; done) | (subst e11; simp at k10; done) | (subst e9; simp at k11; done))), (by assumption : Sat w0 _ _).pick (by (repeat (first | exact Pick.nil _ | exact Pick.tail _ | exact Out.here _ | apply Out.there | apply Pick.cons | apply Pick.drop)))⟩
  refine pl_take (v := .bool false) (by kernel_rfl) ?_ ?_
  · (go_simp; first | done | with_reducible rfl | rfl | omega | assumption | (simp; omega))
  (try simp only [Act.put, aP, aZ, aS])
  iterate 2 (refine pl_take (v := .bool false) rfl ?_ ?_; (· (go_simp; first | done | with_reducible rfl | rfl | omega | assumption | (simp; omega))); (try simp only [Act.put, aP, aZ, aS]))
  iterate 4 (refine pl_take (v := ?_) (by kernel_rfl) ?_ ?_; rotate_left; (· (first | ((with_reducible apply yl_load); assumption; rfl; (repeat (first | with_reducible assumption | ((with_reducible apply Cl.own); exact rfl) | ((with_reducible apply Cl.blkL); exact rfl) | with_reducible apply Cl.cons)); rfl) | (go_simp; first | done | with_reducible rfl | rfl | omega | assumption | (simp; omega)))); (try simp only [Act.put, aP, aZ, aS]))
  by_cases k2 : dn ≠ dn'
  · refine pl_take (v := .bool true) (by kernel_rfl) ?_ ?_
    · (go_simp; first | done | with_reducible rfl | rfl | omega | assumption | (simp; omega))
    (try simp only [Act.put, aP, aZ, aS])
    iterate 2 (refine pl_take (v := .bool true) rfl ?_ ?_; (· (go_simp; first | done | with_reducible rfl | rfl | omega | assumption | (simp; omega))); (try simp only [Act.put, aP, aZ, aS]))
    iterate 5 (refine pl_skip (by kernel_rfl) ?_; (try simp only [Act.put, aP, aZ, aS]))
    iterate 2 (refine pl_take (v := .bool true) rfl ?_ ?_; (· (go_simp; first | done | with_reducible rfl | rfl | omega | assumption | (simp; omega))); (try simp only [Act.put, aP, aZ, aS]))
    iterate 5 (refine pl_skip (by kernel_rfl) ?_; (try simp only [Act.put, aP, aZ, aS]))
    iterate 2 (refine pl_take (v := .bool true) rfl ?_ ?_; (· (go_simp; first | done | with_reducible rfl | rfl | omega | assumption | (simp; omega))); (try simp only [Act.put, aP, aZ, aS]))
    iterate 5 (refine pl_skip (by kernel_rfl) ?_; (try simp only [Act.put, aP, aZ, aS]))
    iterate 2 (refine pl_take (v := .bool true) rfl ?_ ?_; (· (go_simp; first | done | with_reducible rfl | rfl | omega | assumption | (simp; omega))); (try simp only [Act.put, aP, aZ, aS]))
    iterate 5 (refine pl_skip (by kernel_rfl) ?_; (try simp only [Act.put, aP, aZ, aS]))
    iterate 2 (refine pl_take (v := .bool true) rfl ?_ ?_; (· (go_simp; first | done | with_reducible rfl | rfl | omega | assumption | (simp; omega))); (try simp only [Act.put, aP, aZ, aS]))
    iterate 5 (refine pl_skip (by kernel_rfl) ?_; (try simp only [Act.put, aP, aZ, aS]))
    iterate 2 (refine pl_take (v := .bool true) rfl ?_ ?_; (· (go_simp; first | done | with_reducible rfl | rfl | omega | assumption | (simp; omega))); (try simp only [Act.put, aP, aZ, aS]))
    iterate 5 (refine pl_skip (by kernel_rfl) ?_; (try simp only [Act.put, aP, aZ, aS]))
    iterate 2 (refine pl_take (v := .bool true) rfl ?_ ?_; (· (go_simp; first | done | with_reducible rfl | rfl | omega | assumption | (simp; omega))); (try simp only [Act.put, aP, aZ, aS]))
    iterate 6 (refine pl_skip (by kernel_rfl) ?_; (try simp only [Act.put, aP, aZ, aS]))
    iterate 2 (refine pl_take (v := .bool true) rfl ?_ ?_; (· (go_simp; first | done | with_reducible rfl | rfl | omega | assumption | (simp; omega))); (try simp only [Act.put, aP, aZ, aS]))
    iterate 7 (refine pl_skip (by kernel_rfl) ?_; (try simp only [Act.put, aP, aZ, aS]))
    iterate 2 (refine pl_take (v := .bool true) rfl ?_ ?_; (· (go_simp; first | done | with_reducible rfl | rfl | omega | assumption | (simp; omega))); (try simp only [Act.put, aP, aZ, aS]))
    iterate 7 (refine pl_skip (by kernel_rfl) ?_; (try simp only [Act.put, aP, aZ, aS]))
    refine pl_take (v := .bool true) rfl ?_ ?_
    · (go_simp; first | done | with_reducible rfl | rfl | omega | assumption | (simp; omega))
    (try simp only [Act.put, aP, aZ, aS])
    refine pl_done ?_
    refine hK2.out _ _ ?_
    (try clear hK2 K2)
    refine wp_cond_true rfl ?_
    refine wk_seq (fun K3 hK3 => ?_)
    refine wk_reg ?_
    refine pl_take (v := .bool false) rfl ?_ ?_
    · (go_simp; first | done | with_reducible rfl | rfl | omega | assumption | (simp; omega))
    (try simp only [Act.put, aP, aZ, aS])
    refine pl_done ?_
    refine hK3.out _ _ ?_
    (try clear hK3 K3)
    refine wp_ret ?_
    go_ret
    exact ⟨by (cases b with | false => rfl | true => (exfalso; have hh := Hb.out.1 rfl; simp only [Msg.mk.injEq] at hh; obtain ⟨e0, e1, e2, e3, e4, e5, e6, e7, e8, e9, e10, e11⟩ := hh; first | exact k0 e0 | exact k1 e1 | exact k2 e2 | exact k3 e3 | exact k4 e4 | exact k5 e5 | exact k6 e6 | exact k7 e7 | (subst e8; simp at k8; done) | (subst e10; simp at k9; done) | (subst e11; simp at k10; done) | (subst e9; simp at k11; done))), (by assumption : Sat w0 _ _).pick (by (repeat (first | exact Pick.nil _ | exact Pick.tail _ | exact Out.here _ | apply Out.there | apply Pick.cons | apply Pick.drop)))⟩
  refine pl_take (v := .bool false) (by kernel_rfl) ?_ ?_
  · (go_simp; first | done | with_reducible rfl | rfl | omega | assumption | (simp; omega))
  (try simp only [Act.put, aP, aZ, aS])
  iterate 2 (refine pl_take (v := .bool false) rfl ?_ ?_; (· (go_simp; first | done | with_reducible rfl | rfl | omega | assumption | (simp; omega))); (try simp only [Act.put, aP, aZ, aS]))
  iterate 4 (refine pl_take (v := ?_) (by kernel_rfl) ?_ ?_; rotate_left; (· (first | ((with_reducible apply yl_load); assumption; rfl; (repeat (first | with_reducible assumption | ((with_reducible apply Cl.own); exact rfl) | ((with_reducible apply Cl.blkL); exact rfl) | with_reducible apply Cl.cons)); rfl) | (go_simp; first | done | with_reducible rfl | rfl | omega | assumption | (simp; omega)))); (try simp only [Act.put, aP, aZ, aS]))
  by_cases k3 : tm ≠ tm'
  · refine pl_take (v := .bool true) (by kernel_rfl) ?_ ?_
    · (go_simp; first | done | with_reducible rfl | rfl | omega | assumption | (simp; omega))
    (try simp only [Act.put, aP, aZ, aS])
    iterate 2 (refine pl_take (v := .bool true) rfl ?_ ?_; (· (go_simp; first | done | with_reducible rfl | rfl | omega | assumption | (simp; omega))); (try simp only [Act.put, aP, aZ, aS]))
    iterate 5 (refine pl_skip (by kernel_rfl) ?_; (try simp only [Act.put, aP, aZ, aS]))
    iterate 2 (refine pl_take (v := .bool true) rfl ?_ ?_; (· (go_simp; first | done | with_reducible rfl | rfl | omega | assumption | (simp; omega))); (try simp only [Act.put, aP, aZ, aS]))
    iterate 5 (refine pl_skip (by kernel_rfl) ?_; (try simp only [Act.put, aP, aZ, aS]))
    iterate 2 (refine pl_take (v := .bool true) rfl ?_ ?_; (· (go_simp; first | done | with_reducible rfl | rfl | omega | assumption | (simp; omega))); (try simp only [Act.put, aP, aZ, aS]))
    iterate 5 (refine pl_skip (by kernel_rfl) ?_; (try simp only [Act.put, aP, aZ, aS]))
    iterate 2 (refine pl_take (v := .bool true) rfl ?_ ?_; (· (go_simp; first | done | with_reducible rfl | rfl | omega | assumption | (simp; omega))); (try simp only [Act.put, aP, aZ, aS]))
    iterate 5 (refine pl_skip (by kernel_rfl) ?_; (try simp only [Act.put, aP, aZ, aS]))
    iterate 2 (refine pl_take (v := .bool true) rfl ?_ ?_; (· (go_simp; first | done | with_reducible rfl | rfl | omega | assumption | (simp; omega))); (try simp only [Act.put, aP, aZ, aS]))
    iterate 5 (refine pl_skip (by kernel_rfl) ?_; (try simp only [Act.put, aP, aZ, aS]))
    iterate 2 (refine pl_take (v := .bool true) rfl ?_ ?_; (· (go_simp; first | done | with_reducible rfl | rfl | omega | assumption | (simp; omega))); (try simp only [Act.put, aP, aZ, aS]))
    iterate 6 (refine pl_skip (by kernel_rfl) ?_; (try simp only [Act.put, aP, aZ, aS]))
    iterate 2 (refine pl_take (v := .bool true) rfl ?_ ?_; (· (go_simp; first | done | with_reducible rfl | rfl | omega | assumption | (simp; omega))); (try simp only [Act.put, aP, aZ, aS]))
    iterate 7 (refine pl_skip (by kernel_rfl) ?_; (try simp only [Act.put, aP, aZ, aS]))
    iterate 2 (refine pl_take (v := .bool true) rfl ?_ ?_; (· (go_simp; first | done | with_reducible rfl | rfl | omega | assumption | (simp; omega))); (try simp only [Act.put, aP, aZ, aS]))
    iterate 7 (refine pl_skip (by kernel_rfl) ?_; (try simp only [Act.put, aP, aZ, aS]))
    refine pl_take (v := .bool true) rfl ?_ ?_
    · (go_simp; first | done | with_reducible rfl | rfl | omega | assumption | (simp; omega))
    (try simp only [Act.put, aP, aZ, aS])
    refine pl_done ?_
    refine hK2.out _ _ ?_
    (try clear hK2 K2)
    refine wp_cond_true rfl ?_
    refine wk_seq (fun K3 hK3 => ?_)
    refine wk_reg ?_
    refine pl_take (v := .bool false) rfl ?_ ?_
    · (go_simp; first | done | with_reducible rfl | rfl | omega | assumption | (simp; omega))
    (try simp only [Act.put, aP, aZ, aS])
    refine pl_done ?_
    refine hK3.out _ _ ?_
    (try clear hK3 K3)
    refine wp_ret ?_
    go_ret
    exact ⟨by (cases b with | false => rfl | true => (exfalso; have hh := Hb.out.1 rfl; simp only [Msg.mk.injEq] at hh; obtain ⟨e0, e1, e2, e3, e4, e5, e6, e7, e8, e9, e10, e11⟩ := hh; first | exact k0 e0 | exact k1 e1 | exact k2 e2 | exact k3 e3 | exact k4 e4 | exact k5 e5 | exact k6 e6 | exact k7 e7 | (subst e8; simp at k8; done) | (subst e10; simp at k9; done) | (subst e11; simp at k10; done) | (subst e9; simp at k11; done))), (by assumption : Sat w0 _ _).pick (by (repeat (first | exact Pick.nil _ | exact Pick.tail _ | exact Out.here _ | apply Out.there | apply Pick.cons | apply Pick.drop)))⟩
  refine pl_take (v := .bool false) (by kernel_rfl) ?_ ?_
  · (go_simp; first | done | with_reducible rfl | rfl | omega | assumption | (simp; omega))
  (try simp only [Act.put, aP, aZ, aS])
  iterate 2 (refine pl_take (v := .bool false) rfl ?_ ?_; (· (go_simp; first | done | with_reducible rfl | rfl | omega | assumption | (simp; omega))); (try simp only [Act.put, aP, aZ, aS]))
  iterate 4 (refine pl_take (v := ?_) (by kernel_rfl) ?_ ?_; rotate_left; (· (first | ((with_reducible apply yl_load); assumption; rfl; (repeat (first | with_reducible assumption | ((with_reducible apply Cl.own); exact rfl) | ((with_reducible apply Cl.blkL); exact rfl) | with_reducible apply Cl.cons)); rfl) | (go_simp; first | done | with_reducible rfl | rfl | omega | assumption | (simp; omega)))); (try simp only [Act.put, aP, aZ, aS]))
  by_cases k4 : na ≠ na'
  · refine pl_take (v := .bool true) (by kernel_rfl) ?_ ?_
    · (go_simp; first | done | with_reducible rfl | rfl | omega | assumption | (simp; omega))
    (try simp only [Act.put, aP, aZ, aS])
    iterate 2 (refine pl_take (v := .bool true) rfl ?_ ?_; (· (go_simp; first | done | with_reducible rfl | rfl | omega | assumption | (simp; omega))); (try simp only [Act.put, aP, aZ, aS]))
    iterate 5 (refine pl_skip (by kernel_rfl) ?_; (try simp only [Act.put, aP, aZ, aS]))
    iterate 2 (refine pl_take (v := .bool true) rfl ?_ ?_; (· (go_simp; first | done | with_reducible rfl | rfl | omega | assumption | (simp; omega))); (try simp only [Act.put, aP, aZ, aS]))
    iterate 5 (refine pl_skip (by kernel_rfl) ?_; (try simp only [Act.put, aP, aZ, aS]))
    iterate 2 (refine pl_take (v := .bool true) rfl ?_ ?_; (· (go_simp; first | done | with_reducible rfl | rfl | omega | assumption | (simp; omega))); (try simp only [Act.put, aP, aZ, aS]))
    iterate 5 (refine pl_skip (by kernel_rfl) ?_; (try simp only [Act.put, aP, aZ, aS]))
    iterate 2 (refine pl_take (v := .bool true) rfl ?_ ?_; (· (go_simp; first | done | with_reducible rfl | rfl | omega | assumption | (simp; omega))); (try simp only [Act.put, aP, aZ, aS]))
    iterate 5 (refine pl_skip (by kernel_rfl) ?_; (try simp only [Act.put, aP, aZ, aS]))
    iterate 2 (refine pl_take (v := .bool true) rfl ?_ ?_; (· (go_simp; first | done | with_reducible rfl | rfl | omega | assumption | (simp; omega))); (try simp only [Act.put, aP, aZ, aS]))
    iterate 6 (refine pl_skip (by kernel_rfl) ?_; (try simp only [Act.put, aP, aZ, aS]))
    iterate 2 (refine pl_take (v := .bool true) rfl ?_ ?_; (· (go_simp; first | done | with_reducible rfl | rfl | omega | assumption | (simp; omega))); (try simp only [Act.put, aP, aZ, aS]))
    iterate 7 (refine pl_skip (by kernel_rfl) ?_; (try simp only [Act.put, aP, aZ, aS]))
    iterate 2 (refine pl_take (v := .bool true) rfl ?_ ?_; (· (go_simp; first | done | with_reducible rfl | rfl | omega | assumption | (simp; omega))); (try simp only [Act.put, aP, aZ, aS]))
    iterate 7 (refine pl_skip (by kernel_rfl) ?_; (try simp only [Act.put, aP, aZ, aS]))
    refine pl_take (v := .bool true) rfl ?_ ?_
    · (go_simp; first | done | with_reducible rfl | rfl | omega | assumption | (simp; omega))
    (try simp only [Act.put, aP, aZ, aS])
    refine pl_done ?_
    refine hK2.out _ _ ?_
    (try clear hK2 K2)
    refine wp_cond_true rfl ?_
    refine wk_seq (fun K3 hK3 => ?_)
    refine wk_reg ?_
    refine pl_take (v := .bool false) rfl ?_ ?_
    · (go_simp; first | done | with_reducible rfl | rfl | omega | assumption | (simp; omega))
    (try simp only [Act.put, aP, aZ, aS])
    refine pl_done ?_
    refine hK3.out _ _ ?_
    (try clear hK3 K3)
    refine wp_ret ?_
    go_ret
    exact ⟨by (cases b with | false => rfl | true => (exfalso; have hh := Hb.out.1 rfl; simp only [Msg.mk.injEq] at hh; obtain ⟨e0, e1, e2, e3, e4, e5, e6, e7, e8, e9, e10, e11⟩ := hh; first | exact k0 e0 | exact k1 e1 | exact k2 e2 | exact k3 e3 | exact k4 e4 | exact k5 e5 | exact k6 e6 | exact k7 e7 | (subst e8; simp at k8; done) | (subst e10; simp at k9; done) | (subst e11; simp at k10; done) | (subst e9; simp at k11; done))), (by assumption : Sat w0 _ _).pick (by (repeat (first | exact Pick.nil _ | exact Pick.tail _ | exact Out.here _ | apply Out.there | apply Pick.cons | apply Pick.drop)))⟩
  refine pl_take (v := .bool false) (by kernel_rfl) ?_ ?_
  · (go_simp; first | done | with_reducible rfl | rfl | omega | assumption | (simp; omega))
  (try simp only [Act.put, aP, aZ, aS])
  iterate 2 (refine pl_take (v := .bool false) rfl ?_ ?_; (· (go_simp; first | done | with_reducible rfl | rfl | omega | assumption | (simp; omega))); (try simp only [Act.put, aP, aZ, aS]))
  iterate 4 (refine pl_take (v := ?_) (by kernel_rfl) ?_ ?_; rotate_left; (· (first | ((with_reducible apply yl_load); assumption; rfl; (repeat (first | with_reducible assumption | ((with_reducible apply Cl.own); exact rfl) | ((with_reducible apply Cl.blkL); exact rfl) | with_reducible apply Cl.cons)); rfl) | (go_simp; first | done | with_reducible rfl | rfl | omega | assumption | (simp; omega)))); (try simp only [Act.put, aP, aZ, aS]))
  by_cases k5 : nb ≠ nb'
  · refine pl_take (v := .bool true) (by kernel_rfl) ?_ ?_
    · (go_simp; first | done | with_reducible rfl | rfl | omega | assumption | (simp; omega))
    (try simp only [Act.put, aP, aZ, aS])
    iterate 2 (refine pl_take (v := .bool true) rfl ?_ ?_; (· (go_simp; first | done | with_reducible rfl | rfl | omega | assumption | (simp; omega))); (try simp only [Act.put, aP, aZ, aS]))
    iterate 5 (refine pl_skip (by kernel_rfl) ?_; (try simp only [Act.put, aP, aZ, aS]))
    iterate 2 (refine pl_take (v := .bool true) rfl ?_ ?_; (· (go_simp; first | done | with_reducible rfl | rfl | omega | assumption | (simp; omega))); (try simp only [Act.put, aP, aZ, aS]))
    iterate 5 (refine pl_skip (by kernel_rfl) ?_; (try simp only [Act.put, aP, aZ, aS]))
    iterate 2 (refine pl_take (v := .bool true) rfl ?_ ?_; (· (go_simp; first | done | with_reducible rfl | rfl | omega | assumption | (simp; omega))); (try simp only [Act.put, aP, aZ, aS]))
    iterate 5 (refine pl_skip (by kernel_rfl) ?_; (try simp only [Act.put, aP, aZ, aS]))
    iterate 2 (refine pl_take (v := .bool true) rfl ?_ ?_; (· (go_simp; first | done | with_reducible rfl | rfl | omega | assumption | (simp; omega))); (try simp only [Act.put, aP, aZ, aS]))
    iterate 6 (refine pl_skip (by kernel_rfl) ?_; (try simp only [Act.put, aP, aZ, aS]))
    iterate 2 (refine pl_take (v := .bool true) rfl ?_ ?_; (· (go_simp; first | done | with_reducible rfl | rfl | omega | assumption | (simp; omega))); (try simp only [Act.put, aP, aZ, aS]))
    iterate 7 (refine pl_skip (by kernel_rfl) ?_; (try simp only [Act.put, aP, aZ, aS]))
    iterate 2 (refine pl_take (v := .bool true) rfl ?_ ?_; (· (go_simp; first | done | with_reducible rfl | rfl | omega | assumption | (simp; omega))); (try simp only [Act.put, aP, aZ, aS]))
    iterate 7 (refine pl_skip (by kernel_rfl) ?_; (try simp only [Act.put, aP, aZ, aS]))
    refine pl_take (v := .bool true) rfl ?_ ?_
    · (go_simp; first | done | with_reducible rfl | rfl | omega | assumption | (simp; omega))
    (try simp only [Act.put, aP, aZ, aS])
    refine pl_done ?_
    refine hK2.out _ _ ?_
    (try clear hK2 K2)
    refine wp_cond_true rfl ?_
    refine wk_seq (fun K3 hK3 => ?_)
    refine wk_reg ?_
    refine pl_take (v := .bool false) rfl ?_ ?_
    · (go_simp; first | done | with_reducible rfl | rfl | omega | assumption | (simp; omega))
    (try simp only [Act.put, aP, aZ, aS])
    refine pl_done ?_
    refine hK3.out _ _ ?_
    (try clear hK3 K3)
    refine wp_ret ?_
    go_ret
    exact ⟨by (cases b with | false => rfl | true => (exfalso; have hh := Hb.out.1 rfl; simp only [Msg.mk.injEq] at hh; obtain ⟨e0, e1, e2, e3, e4, e5, e6, e7, e8, e9, e10, e11⟩ := hh; first | exact k0 e0 | exact k1 e1 | exact k2 e2 | exact k3 e3 | exact k4 e4 | exact k5 e5 | exact k6 e6 | exact k7 e7 | (subst e8; simp at k8; done) | (subst e10; simp at k9; done) | (subst e11; simp at k10; done) | (subst e9; simp at k11; done))), (by assumption : Sat w0 _ _).pick (by (repeat (first | exact Pick.nil _ | exact Pick.tail _ | exact Out.here _ | apply Out.there | apply Pick.cons | apply Pick.drop)))⟩
  refine pl_take (v := .bool false) (by kernel_rfl) ?_ ?_
  · (go_simp; first | done | with_reducible rfl | rfl | omega | assumption | (simp; omega))
  (try simp only [Act.put, aP, aZ, aS])
  iterate 2 (refine pl_take (v := .bool false) rfl ?_ ?_; (· (go_simp; first | done | with_reducible rfl | rfl | omega | assumption | (simp; omega))); (try simp only [Act.put, aP, aZ, aS]))
  iterate 4 (refine pl_take (v := ?_) (by kernel_rfl) ?_ ?_; rotate_left; (· (first | ((with_reducible apply yl_load); assumption; rfl; (repeat (first | with_reducible assumption | ((with_reducible apply Cl.own); exact rfl) | ((with_reducible apply Cl.blkL); exact rfl) | with_reducible apply Cl.cons)); rfl) | (go_simp; first | done | with_reducible rfl | rfl | omega | assumption | (simp; omega)))); (try simp only [Act.put, aP, aZ, aS]))
  by_cases k6 : nc ≠ nc'
  · refine pl_take (v := .bool true) (by kernel_rfl) ?_ ?_
    · (go_simp; first | done | with_reducible rfl | rfl | omega | assumption | (simp; omega))
    (try simp only [Act.put, aP, aZ, aS])
    iterate 2 (refine pl_take (v := .bool true) rfl ?_ ?_; (· (go_simp; first | done | with_reducible rfl | rfl | omega | assumption | (simp; omega))); (try simp only [Act.put, aP, aZ, aS]))
    iterate 5 (refine pl_skip (by kernel_rfl) ?_; (try simp only [Act.put, aP, aZ, aS]))
    iterate 2 (refine pl_take (v := .bool true) rfl ?_ ?_; (· (go_simp; first | done | with_reducible rfl | rfl | omega | assumption | (simp; omega))); (try simp only [Act.put, aP, aZ, aS]))
    iterate 5 (refine pl_skip (by kernel_rfl) ?_; (try simp only [Act.put, aP, aZ, aS]))
    iterate 2 (refine pl_take (v := .bool true) rfl ?_ ?_; (· (go_simp; first | done | with_reducible rfl | rfl | omega | assumption | (simp; omega))); (try simp only [Act.put, aP, aZ, aS]))
    iterate 6 (refine pl_skip (by kernel_rfl) ?_; (try simp only [Act.put, aP, aZ, aS]))
    iterate 2 (refine pl_take (v := .bool true) rfl ?_ ?_; (· (go_simp; first | done | with_reducible rfl | rfl | omega | assumption | (simp; omega))); (try simp only [Act.put, aP, aZ, aS]))
    iterate 7 (refine pl_skip (by kernel_rfl) ?_; (try simp only [Act.put, aP, aZ, aS]))
    iterate 2 (refine pl_take (v := .bool true) rfl ?_ ?_; (· (go_simp; first | done | with_reducible rfl | rfl | omega | assumption | (simp; omega))); (try simp only [Act.put, aP, aZ, aS]))
    iterate 7 (refine pl_skip (by kernel_rfl) ?_; (try simp only [Act.put, aP, aZ, aS]))
    refine pl_take (v := .bool true) rfl ?_ ?_
    · (go_simp; first | done | with_reducible rfl | rfl | omega | assumption | (simp; omega))
    (try simp only [Act.put, aP, aZ, aS])
    refine pl_done ?_
    refine hK2.out _ _ ?_
    (try clear hK2 K2)
    refine wp_cond_true rfl ?_
    refine wk_seq (fun K3 hK3 => ?_)
    refine wk_reg ?_
    refine pl_take (v := .bool false) rfl ?_ ?_
    · (go_simp; first | done | with_reducible rfl | rfl | omega | assumption | (simp; omega))
    (try simp only [Act.put, aP, aZ, aS])
    refine pl_done ?_
    refine hK3.out _ _ ?_
    (try clear hK3 K3)
    refine wp_ret ?_
    go_ret
    exact ⟨by (cases b with | false => rfl | true => (exfalso; have hh := Hb.out.1 rfl; simp only [Msg.mk.injEq] at hh; obtain ⟨e0, e1, e2, e3, e4, e5, e6, e7, e8, e9, e10, e11⟩ := hh; first | exact k0 e0 | exact k1 e1 | exact k2 e2 | exact k3 e3 | exact k4 e4 | exact k5 e5 | exact k6 e6 | exact k7 e7 | (subst e8; simp at k8; done) | (subst e10; simp at k9; done) | (subst e11; simp at k10; done) | (subst e9; simp at k11; done))), (by assumption : Sat w0 _ _).pick (by (repeat (first | exact Pick.nil _ | exact Pick.tail _ | exact Out.here _ | apply Out.there | apply Pick.cons | apply Pick.drop)))⟩
  refine pl_take (v := .bool false) (by kernel_rfl) ?_ ?_
  · (go_simp; first | done | with_reducible rfl | rfl | omega | assumption | (simp; omega))
  (try simp only [Act.put, aP, aZ, aS])
  iterate 2 (refine pl_take (v := .bool false) rfl ?_ ?_; (· (go_simp; first | done | with_reducible rfl | rfl | omega | assumption | (simp; omega))); (try simp only [Act.put, aP, aZ, aS]))
  iterate 4 (refine pl_take (v := ?_) (by kernel_rfl) ?_ ?_; rotate_left; (· (first | ((with_reducible apply yl_load); assumption; rfl; (repeat (first | with_reducible assumption | ((with_reducible apply Cl.own); exact rfl) | ((with_reducible apply Cl.blkL); exact rfl) | with_reducible apply Cl.cons)); rfl) | (go_simp; first | done | with_reducible rfl | rfl | omega | assumption | (simp; omega)))); (try simp only [Act.put, aP, aZ, aS]))
  by_cases k7 : nd ≠ nd'
  · refine pl_take (v := .bool true) (by kernel_rfl) ?_ ?_
    · (go_simp; first | done | with_reducible rfl | rfl | omega | assumption | (simp; omega))
    (try simp only [Act.put, aP, aZ, aS])
    iterate 2 (refine pl_take (v := .bool true) rfl ?_ ?_; (· (go_simp; first | done | with_reducible rfl | rfl | omega | assumption | (simp; omega))); (try simp only [Act.put, aP, aZ, aS]))
    iterate 5 (refine pl_skip (by kernel_rfl) ?_; (try simp only [Act.put, aP, aZ, aS]))
    iterate 2 (refine pl_take (v := .bool true) rfl ?_ ?_; (· (go_simp; first | done | with_reducible rfl | rfl | omega | assumption | (simp; omega))); (try simp only [Act.put, aP, aZ, aS]))
    iterate 6 (refine pl_skip (by kernel_rfl) ?_; (try simp only [Act.put, aP, aZ, aS]))
    iterate 2 (refine pl_take (v := .bool true) rfl ?_ ?_; (· (go_simp; first | done | with_reducible rfl | rfl | omega | assumption | (simp; omega))); (try simp only [Act.put, aP, aZ, aS]))
    iterate 7 (refine pl_skip (by kernel_rfl) ?_; (try simp only [Act.put, aP, aZ, aS]))
    iterate 2 (refine pl_take (v := .bool true) rfl ?_ ?_; (· (go_simp; first | done | with_reducible rfl | rfl | omega | assumption | (simp; omega))); (try simp only [Act.put, aP, aZ, aS]))
    iterate 7 (refine pl_skip (by kernel_rfl) ?_; (try simp only [Act.put, aP, aZ, aS]))
    refine pl_take (v := .bool true) rfl ?_ ?_
    · (go_simp; first | done | with_reducible rfl | rfl | omega | assumption | (simp; omega))
    (try simp only [Act.put, aP, aZ, aS])
    refine pl_done ?_
    refine hK2.out _ _ ?_
    (try clear hK2 K2)
    refine wp_cond_true rfl ?_
    refine wk_seq (fun K3 hK3 => ?_)
    refine wk_reg ?_
    refine pl_take (v := .bool false) rfl ?_ ?_
    · (go_simp; first | done | with_reducible rfl | rfl | omega | assumption | (simp; omega))
    (try simp only [Act.put, aP, aZ, aS])
    refine pl_done ?_
    refine hK3.out _ _ ?_
    (try clear hK3 K3)
    refine wp_ret ?_
    go_ret
    exact ⟨by (cases b with | false => rfl | true => (exfalso; have hh := Hb.out.1 rfl; simp only [Msg.mk.injEq] at hh; obtain ⟨e0, e1, e2, e3, e4, e5, e6, e7, e8, e9, e10, e11⟩ := hh; first | exact k0 e0 | exact k1 e1 | exact k2 e2 | exact k3 e3 | exact k4 e4 | exact k5 e5 | exact k6 e6 | exact k7 e7 | (subst e8; simp at k8; done) | (subst e10; simp at k9; done) | (subst e11; simp at k10; done) | (subst e9; simp at k11; done))), (by assumption : Sat w0 _ _).pick (by (repeat (first | exact Pick.nil _ | exact Pick.tail _ | exact Out.here _ | apply Out.there | apply Pick.cons | apply Pick.drop)))⟩
  refine pl_take (v := .bool false) (by kernel_rfl) ?_ ?_
  · (go_simp; first | done | with_reducible rfl | rfl | omega | assumption | (simp; omega))
  (try simp only [Act.put, aP, aZ, aS])
  iterate 2 (refine pl_take (v := .bool false) rfl ?_ ?_; (· (go_simp; first | done | with_reducible rfl | rfl | omega | assumption | (simp; omega))); (try simp only [Act.put, aP, aZ, aS]))
  iterate 4 (refine pl_take (v := ?_) (by kernel_rfl) ?_ ?_; rotate_left; (· (first | ((with_reducible apply yl_load); assumption; rfl; (repeat (first | with_reducible assumption | ((with_reducible apply Cl.own); exact rfl) | ((with_reducible apply Cl.blkL); exact rfl) | with_reducible apply Cl.cons)); rfl) | (go_simp; first | done | with_reducible rfl | rfl | omega | assumption | (simp; omega)))); (try simp only [Act.put, aP, aZ, aS]))
  by_cases k8 : (yes == yes') = false
  · refine pl_take (v := .bool true) (by kernel_rfl) ?_ ?_
    · (first | (go_simp; done) | (go_simp; simp [k8]))
    (try simp only [Act.put, aP, aZ, aS])
    iterate 2 (refine pl_take (v := .bool true) rfl ?_ ?_; (· (go_simp; first | done | with_reducible rfl | rfl | omega | assumption | (simp; omega))); (try simp only [Act.put, aP, aZ, aS]))
    iterate 6 (refine pl_skip (by kernel_rfl) ?_; (try simp only [Act.put, aP, aZ, aS]))
    iterate 2 (refine pl_take (v := .bool true) rfl ?_ ?_; (· (go_simp; first | done | with_reducible rfl | rfl | omega | assumption | (simp; omega))); (try simp only [Act.put, aP, aZ, aS]))
    iterate 7 (refine pl_skip (by kernel_rfl) ?_; (try simp only [Act.put, aP, aZ, aS]))
    iterate 2 (refine pl_take (v := .bool true) rfl ?_ ?_; (· (go_simp; first | done | with_reducible rfl | rfl | omega | assumption | (simp; omega))); (try simp only [Act.put, aP, aZ, aS]))
    iterate 7 (refine pl_skip (by kernel_rfl) ?_; (try simp only [Act.put, aP, aZ, aS]))
    refine pl_take (v := .bool true) rfl ?_ ?_
    · (go_simp; first | done | with_reducible rfl | rfl | omega | assumption | (simp; omega))
    (try simp only [Act.put, aP, aZ, aS])
    refine pl_done ?_
    refine hK2.out _ _ ?_
    (try clear hK2 K2)
    refine wp_cond_true rfl ?_
    refine wk_seq (fun K3 hK3 => ?_)
    refine wk_reg ?_
    refine pl_take (v := .bool false) rfl ?_ ?_
    · (go_simp; first | done | with_reducible rfl | rfl | omega | assumption | (simp; omega))
    (try simp only [Act.put, aP, aZ, aS])
    refine pl_done ?_
    refine hK3.out _ _ ?_
    (try clear hK3 K3)
    refine wp_ret ?_
    go_ret
    exact ⟨by (cases b with | false => rfl | true => (exfalso; have hh := Hb.out.1 rfl; simp only [Msg.mk.injEq] at hh; obtain ⟨e0, e1, e2, e3, e4, e5, e6, e7, e8, e9, e10, e11⟩ := hh; first | exact k0 e0 | exact k1 e1 | exact k2 e2 | exact k3 e3 | exact k4 e4 | exact k5 e5 | exact k6 e6 | exact k7 e7 | (subst e8; simp at k8; done) | (subst e10; simp at k9; done) | (subst e11; simp at k10; done) | (subst e9; simp at k11; done))), (by assumption : Sat w0 _ _).pick (by (repeat (first | exact Pick.nil _ | exact Pick.tail _ | exact Out.here _ | apply Out.there | apply Pick.cons | apply Pick.drop)))⟩
  refine pl_take (v := .bool false) (by kernel_rfl) ?_ ?_
  · (first | (go_simp; done) | (go_simp; simp [k8]))
  (try simp only [Act.put, aP, aZ, aS])
  iterate 2 (refine pl_take (v := .bool false) rfl ?_ ?_; (· (go_simp; first | done | with_reducible rfl | rfl | omega | assumption | (simp; omega))); (try simp only [Act.put, aP, aZ, aS]))
  iterate 4 (refine pl_take (v := ?_) (by kernel_rfl) ?_ ?_; rotate_left; (· (first | ((with_reducible apply yl_load); assumption; rfl; (repeat (first | with_reducible assumption | ((with_reducible apply Cl.own); exact rfl) | ((with_reducible apply Cl.blkL); exact rfl) | with_reducible apply Cl.cons)); rfl) | (go_simp; first | done | with_reducible rfl | rfl | omega | assumption | (simp; omega)))); (try simp only [Act.put, aP, aZ, aS]))
  refine pl_eff (by kernel_rfl) (fun Kp hKp => ?_)
  go_simp
  ((refine (ints4_spec (by omega) (by omega) (by assumption) (by (repeat (first | with_reducible assumption | with_reducible exact Rd.own | with_reducible exact Rd.nil | with_reducible apply Rd.cons))) (by (repeat (first | with_reducible assumption | with_reducible exact Rd.own | with_reducible exact Rd.nil | with_reducible apply Rd.cons)))).mono ?_); rintro e72 w72 ⟨rfl, hs72⟩)
  (try go_wp2_with fail)
  by_cases k9 : decide (sv = sv') = true
  rotate_left
  · refine hKp.out _ _ ?_
    clear hKp Kp
    (try simp only [Act.put, aP, aZ, aS])
    refine pl_take (v := .bool true) (by kernel_rfl) ?_ ?_
    · (first | (go_simp; done) | (go_simp; simp [k9]))
    (try simp only [Act.put, aP, aZ, aS])
    iterate 2 (refine pl_take (v := .bool true) rfl ?_ ?_; (· (go_simp; first | done | with_reducible rfl | rfl | omega | assumption | (simp; omega))); (try simp only [Act.put, aP, aZ, aS]))
    iterate 7 (refine pl_skip (by kernel_rfl) ?_; (try simp only [Act.put, aP, aZ, aS]))
    iterate 2 (refine pl_take (v := .bool true) rfl ?_ ?_; (· (go_simp; first | done | with_reducible rfl | rfl | omega | assumption | (simp; omega))); (try simp only [Act.put, aP, aZ, aS]))
    iterate 7 (refine pl_skip (by kernel_rfl) ?_; (try simp only [Act.put, aP, aZ, aS]))
    refine pl_take (v := .bool true) rfl ?_ ?_
    · (go_simp; first | done | with_reducible rfl | rfl | omega | assumption | (simp; omega))
    (try simp only [Act.put, aP, aZ, aS])
    refine pl_done ?_
    refine hK2.out _ _ ?_
    (try clear hK2 K2)
    refine wp_cond_true rfl ?_
    refine wk_seq (fun K3 hK3 => ?_)
    refine wk_reg ?_
    refine pl_take (v := .bool false) rfl ?_ ?_
    · (go_simp; first | done | with_reducible rfl | rfl | omega | assumption | (simp; omega))
    (try simp only [Act.put, aP, aZ, aS])
    refine pl_done ?_
    refine hK3.out _ _ ?_
    (try clear hK3 K3)
    refine wp_ret ?_
    go_ret
    exact ⟨by (cases b with | false => rfl | true => (exfalso; have hh := Hb.out.1 rfl; simp only [Msg.mk.injEq] at hh; obtain ⟨e0, e1, e2, e3, e4, e5, e6, e7, e8, e9, e10, e11⟩ := hh; first | exact k0 e0 | exact k1 e1 | exact k2 e2 | exact k3 e3 | exact k4 e4 | exact k5 e5 | exact k6 e6 | exact k7 e7 | (subst e8; simp at k8; done) | (subst e10; simp at k9; done) | (subst e11; simp at k10; done) | (subst e9; simp at k11; done))), (by assumption : Sat w0 _ _).pick (by (repeat (first | exact Pick.nil _ | exact Pick.tail _ | exact Out.here _ | apply Out.there | apply Pick.cons | apply Pick.drop)))⟩
  refine hKp.out _ _ ?_
  clear hKp Kp
  (try simp only [Act.put, aP, aZ, aS])
  refine pl_take (v := .bool false) (by kernel_rfl) ?_ ?_
  · (first | (go_simp; done) | (go_simp; simp [k9]))
  (try simp only [Act.put, aP, aZ, aS])
  iterate 2 (refine pl_take (v := .bool false) rfl ?_ ?_; (· (go_simp; first | done | with_reducible rfl | rfl | omega | assumption | (simp; omega))); (try simp only [Act.put, aP, aZ, aS]))
  iterate 6 (refine pl_take (v := ?_) (by kernel_rfl) ?_ ?_; rotate_left; (· (first | ((with_reducible apply yl_load); assumption; rfl; (repeat (first | with_reducible assumption | ((with_reducible apply Cl.own); exact rfl) | ((with_reducible apply Cl.blkL); exact rfl) | with_reducible apply Cl.cons)); rfl) | (first | ((with_reducible apply yl_b2s); assumption; rfl; (repeat (first | with_reducible assumption | with_reducible exact Rd.own | with_reducible exact Rd.nil | with_reducible apply Rd.cons)); rfl) | (go_simp; first | done | with_reducible rfl | rfl | omega | assumption | (simp; omega))) | (go_simp; first | done | with_reducible rfl | rfl | omega | assumption | (simp; omega)))); (try simp only [Act.put, aP, aZ, aS]))
  by_cases k10 : (dt == dt') = false
  · refine pl_take (v := .bool true) (by kernel_rfl) ?_ ?_
    · (first | (go_simp; done) | (go_simp; simp [k10]))
    (try simp only [Act.put, aP, aZ, aS])
    iterate 2 (refine pl_take (v := .bool true) rfl ?_ ?_; (· (go_simp; first | done | with_reducible rfl | rfl | omega | assumption | (simp; omega))); (try simp only [Act.put, aP, aZ, aS]))
    iterate 7 (refine pl_skip (by kernel_rfl) ?_; (try simp only [Act.put, aP, aZ, aS]))
    refine pl_take (v := .bool true) rfl ?_ ?_
    · (go_simp; first | done | with_reducible rfl | rfl | omega | assumption | (simp; omega))
    (try simp only [Act.put, aP, aZ, aS])
    refine pl_done ?_
    refine hK2.out _ _ ?_
    (try clear hK2 K2)
    refine wp_cond_true rfl ?_
    refine wk_seq (fun K3 hK3 => ?_)
    refine wk_reg ?_
    refine pl_take (v := .bool false) rfl ?_ ?_
    · (go_simp; first | done | with_reducible rfl | rfl | omega | assumption | (simp; omega))
    (try simp only [Act.put, aP, aZ, aS])
    refine pl_done ?_
    refine hK3.out _ _ ?_
    (try clear hK3 K3)
    refine wp_ret ?_
    go_ret
    exact ⟨by (cases b with | false => rfl | true => (exfalso; have hh := Hb.out.1 rfl; simp only [Msg.mk.injEq] at hh; obtain ⟨e0, e1, e2, e3, e4, e5, e6, e7, e8, e9, e10, e11⟩ := hh; first | exact k0 e0 | exact k1 e1 | exact k2 e2 | exact k3 e3 | exact k4 e4 | exact k5 e5 | exact k6 e6 | exact k7 e7 | (subst e8; simp at k8; done) | (subst e10; simp at k9; done) | (subst e11; simp at k10; done) | (subst e9; simp at k11; done))), (by assumption : Sat w0 _ _).pick (by (repeat (first | exact Pick.nil _ | exact Pick.tail _ | exact Out.here _ | apply Out.there | apply Pick.cons | apply Pick.drop)))⟩
  refine pl_take (v := .bool false) (by kernel_rfl) ?_ ?_
  · (first | (go_simp; done) | (go_simp; simp [k10]))
  (try simp only [Act.put, aP, aZ, aS])
  iterate 2 (refine pl_take (v := .bool false) rfl ?_ ?_; (· (go_simp; first | done | with_reducible rfl | rfl | omega | assumption | (simp; omega))); (try simp only [Act.put, aP, aZ, aS]))
  iterate 6 (refine pl_take (v := ?_) (by kernel_rfl) ?_ ?_; rotate_left; (· (first | ((with_reducible apply yl_load); assumption; rfl; (repeat (first | with_reducible assumption | ((with_reducible apply Cl.own); exact rfl) | ((with_reducible apply Cl.blkL); exact rfl) | with_reducible apply Cl.cons)); rfl) | (go_simp; first | done | with_reducible rfl | rfl | omega | assumption | (simp; omega)))); (try simp only [Act.put, aP, aZ, aS]))
  by_cases k11 : es.length ≠ es'.length
  · refine pl_take (v := .bool true) (by kernel_rfl) ?_ ?_
    · (go_simp; first | done | with_reducible rfl | rfl | omega | assumption | (simp; omega))
    (try simp only [Act.put, aP, aZ, aS])
    refine pl_take (v := .bool true) rfl ?_ ?_
    · (go_simp; first | done | with_reducible rfl | rfl | omega | assumption | (simp; omega))
    (try simp only [Act.put, aP, aZ, aS])
    refine pl_done ?_
    refine hK2.out _ _ ?_
    (try clear hK2 K2)
    refine wp_cond_true rfl ?_
    refine wk_seq (fun K3 hK3 => ?_)
    refine wk_reg ?_
    refine pl_take (v := .bool false) rfl ?_ ?_
    · (go_simp; first | done | with_reducible rfl | rfl | omega | assumption | (simp; omega))
    (try simp only [Act.put, aP, aZ, aS])
    refine pl_done ?_
    refine hK3.out _ _ ?_
    (try clear hK3 K3)
    refine wp_ret ?_
    go_ret
    exact ⟨by (cases b with | false => rfl | true => (exfalso; have hh := Hb.out.1 rfl; simp only [Msg.mk.injEq] at hh; obtain ⟨e0, e1, e2, e3, e4, e5, e6, e7, e8, e9, e10, e11⟩ := hh; first | exact k0 e0 | exact k1 e1 | exact k2 e2 | exact k3 e3 | exact k4 e4 | exact k5 e5 | exact k6 e6 | exact k7 e7 | (subst e8; simp at k8; done) | (subst e10; simp at k9; done) | (subst e11; simp at k10; done) | (subst e9; simp at k11; done))), (by assumption : Sat w0 _ _).pick (by (repeat (first | exact Pick.nil _ | exact Pick.tail _ | exact Out.here _ | apply Out.there | apply Pick.cons | apply Pick.drop)))⟩
  refine pl_take (v := .bool false) (by kernel_rfl) ?_ ?_
  · (go_simp; first | done | with_reducible rfl | rfl | omega | assumption | (simp; omega))
  (try simp only [Act.put, aP, aZ, aS])
  refine pl_take (v := .bool false) rfl ?_ ?_
  · (go_simp; first | done | with_reducible rfl | rfl | omega | assumption | (simp; omega))
  (try simp only [Act.put, aP, aZ, aS])
  refine pl_done ?_
  refine hK2.out _ _ ?_
  (try clear hK2 K2)
  refine wp_cond_false rfl ?_
  refine wp_skip ?_
  refine hK1.out _ _ ?_
  (try clear hK1 K1)
  refine wk_seq (fun K4 hK4 => ?_)
  refine wk_seq (fun K5 hK5 => ?_)
  refine wk_reg ?_
  refine pl_take (v := ?_) rfl ?_ ?_
  rotate_left
  · (go_simp; first | done | with_reducible rfl | rfl | omega | assumption | (simp; omega))
  (try simp only [Act.put, aP, aZ, aS])
  refine pl_done ?_
  refine hK5.out _ _ ?_
  (try clear hK5 K5)
  refine wp_block ?_
  -- at a loop
  obtain rfl : kd = kd' := by omega
  obtain rfl : fr = fr' := by omega
  obtain rfl : dn = dn' := by omega
  obtain rfl : tm = tm' := by omega
  obtain rfl : na = na' := by omega
  obtain rfl : nb = nb' := by omega
  obtain rfl : nc = nc' := by omega
  obtain rfl : nd = nd' := by omega
  obtain rfl : yes = yes' := by simpa using k8
  obtain rfl : sv = sv' := by simpa using k9
  obtain rfl : dt = dt' := by simpa using k10
  have hll : es.length = es'.length := by omega
  clear k0 k1 k2 k3 k4 k5 k6 k7 k8 k9 k10 k11
  have Hll := Hid.mk' hll
  clear hll
  obtain ⟨n, hn⟩ : ∃ n, n = es.length := ⟨_, rfl⟩
  have Hb2 : Hid (b = true ↔ es = es') := by unfold Hid; rw [Hb.out]; simp
  clear Hb
  go_loopw [5] (fun i wr => ∃ k : Nat, i = .int .i64 k ∧ k ≤ es.length ∧ Hid (es.take k = es'.take k) ∧ Sat w0 wr (blk b2 (.cells #[.int .i64 kd, .int .i64 fr, .int .i64 dn, .int .i64 tm, .int .i64 na, .int .i64 nb, .int .i64 nc, .int .i64 nd, .bool yes, .slice A es.length ca, .slice B sv.length cb, .slice C dt.length cc] 27 (0, 0)) :: blk b3 (.cells #[.int .i64 kd, .int .i64 fr, .int .i64 dn, .int .i64 tm, .int .i64 na, .int .i64 nb, .int .i64 nc, .int .i64 nd, .bool yes, .slice A' es'.length ca', .slice B' sv.length cb', .slice C' dt.length cc'] 26 (0, 0)) :: L)) (fun i _ => es.length - (intOf i).toNat)
  case atStart => exact ⟨0, rfl, Nat.zero_le _, by unfold Hid; simp, (by assumption : Sat w0 _ _).pick (by (repeat (first | exact Pick.nil _ | exact Pick.tail _ | exact Out.here _ | apply Out.there | apply Pick.cons | apply Pick.drop)))⟩
  case round =>
    obtain ⟨k, rfl, hk, Hk, hsC⟩ := hrel
    by_cases hlt : k < es.length
    · obtain ⟨x, hx⟩ : ∃ x, es[k]? = some x := ⟨es[k], List.getElem?_eq_getElem hlt⟩
      obtain ⟨y, hy⟩ : ∃ y, es'[k]? = some y := ⟨es'[k], List.getElem?_eq_getElem (by have := Hll.out; omega)⟩
      obtain ⟨⟨Ax, cx, ex, hrx⟩, _⟩ := hel k x hx
      obtain ⟨⟨Ay, cy, ey, hry⟩, _⟩ := hel' k y hy
      obtain ⟨ga, oa, rfl⟩ := hRv.some_of hs (by omega)
      obtain ⟨gb, ob, rfl⟩ := hRv'.some_of hs (by have := Hll.out; omega)
      have hrow := hRv.row_at k hlt
      have hrow' := hRv'.row_at k (by have := Hll.out; omega)
      rw [ex] at hrow
      rw [ey] at hrow'
      have Hx := Hid.mk' hx
      have Hy := Hid.mk' hy
      obtain ⟨t, i, q, d⟩ := x
      obtain ⟨t', i', q', d'⟩ := y
      simp only at hrow hrx hrow' hry
      obtain ⟨β, hβ⟩ : ∃ β, ((t == t') && (i == i') && (q == q') && (d == d')) = β := ⟨_, rfl⟩
      have hS : ∀ {w : World} {L : List HP}, Sat w0 w L → Rd w0 L Ax d.length 1 (B8 d) → Rd w0 L Ay d'.length 1 (B8 d') → Calls Try.prog 37 #[.agg #[.int .i64 t, .int .i64 i, .int .i64 q, .slice Ax d.length cx], .agg #[.int .i64 t', .int .i64 i', .int .i64 q', .slice Ay d'.length cy]] w (RetB w0 L β) := fun hs h1 h2 => by
        rw [← hβ]; exact same_spec hs h1 h2
      have Hβ : Hid (β = true ↔ (⟨t, i, q, d⟩ : Ent) = ⟨t', i', q', d'⟩) := by unfold Hid; rw [← hβ]; simp [Bool.and_eq_true, and_assoc]
      have i0 : (0 : Int) ≤ (k : Int) := by omega
      have i1 : (k : Int) < (es.length : Int) := by omega
      have i2 : (k : Int) < (es'.length : Int) := by have := Hll.out; omega
      have hwk : IntKind.i64.wrap ((k : Int) + 1) = (k : Int) + 1 := IntWalk.i64_in _ (by omega)
      clear hx hy ex ey hel hel' hβ hn
      cases β with
      | true =>
        refine wk_seq (fun K6 hK6 => ?_)
        refine wk_seq (fun K7 hK7 => ?_)
        refine wk_reg ?_
        iterate 4 (refine pl_take (v := ?_) rfl ?_ ?_; rotate_left; (· (first | ((with_reducible apply yl_load); assumption; rfl; (repeat (first | with_reducible assumption | ((with_reducible apply Cl.own); exact rfl) | ((with_reducible apply Cl.blkL); exact rfl) | with_reducible apply Cl.cons)); rfl) | (go_simp; first | done | with_reducible rfl | rfl | omega | assumption | (simp; omega)))); (try simp only [Act.put, aP, aZ, aS]))
        refine pl_take (v := .bool true) rfl ?_ ?_
        · (go_simp; first | done | with_reducible rfl | rfl | omega | assumption | (simp; omega))
        (try simp only [Act.put, aP, aZ, aS])
        refine pl_done ?_
        refine hK7.out _ _ ?_
        (try clear hK7 K7)
        refine wp_cond_true rfl ?_
        refine wp_skip ?_
        refine hK6.out _ _ ?_
        (try clear hK6 K6)
        refine wk_seq (fun K8 hK8 => ?_)
        refine wp_block ?_
        refine wk_seq (fun K9 hK9 => ?_)
        refine rg_start rfl (by assumption) (fun wr6 hsr6 => ?_)
        refine rg_take (i := 0) (v := ?_) rfl (by kernel_rfl) (by kernel_rfl) (by kernel_rfl) (fun _ _ _ h => h) rfl (by assumption) ?_ ?_
        rotate_left
        · intro w hSw; (go_simp; first | done | with_reducible rfl | rfl | omega | assumption | (simp; omega))
        (try simp only [Act.put, aP, aZ, aS])
        refine rg_take (i := 1) (v := ?_) rfl (by kernel_rfl) (by kernel_rfl) (by kernel_rfl) (fun _ _ _ h => h) rfl (by assumption) ?_ ?_
        rotate_left
        · intro w hSw; ((with_reducible apply yl_load); assumption; rfl; (repeat (first | with_reducible assumption | ((with_reducible apply Cl.own); exact rfl) | ((with_reducible apply Cl.blkL); exact rfl) | with_reducible apply Cl.cons)); rfl)
        (try simp only [Act.put, aP, aZ, aS])
        refine rg_take (i := 2) (v := ?_) rfl (by kernel_rfl) (by kernel_rfl) (by kernel_rfl) (fun _ _ _ h => h) rfl (by assumption) ?_ ?_
        rotate_left
        · intro w hSw; (go_simp; first | done | with_reducible rfl | rfl | omega | assumption | (simp; omega))
        (try simp only [Act.put, aP, aZ, aS])
        refine rg_take (i := 3) (v := ?_) rfl (by kernel_rfl) (by kernel_rfl) (by kernel_rfl) (fun _ _ _ h => h) rfl (by assumption) ?_ ?_
        rotate_left
        · intro w hSw; (go_simp; first | done | with_reducible rfl | rfl | omega | assumption | (simp; omega))
        (try simp only [Act.put, aP, aZ, aS])
        refine rg_take (i := 4) (v := ?_) rfl (by kernel_rfl) (by kernel_rfl) (by kernel_rfl) (fun _ _ _ h => h) rfl (by assumption) ?_ ?_
        rotate_left
        · intro w hSw; (first | ((with_reducible apply yl_loadAgg); assumption; rfl; (repeat (first | with_reducible exact Out.here _ | apply Out.there)); (simp); rfl; rfl) | ((with_reducible apply yl_loadAggR); assumption; rfl; (repeat (first | with_reducible assumption | with_reducible exact Rd.own | with_reducible exact Rd.nil | with_reducible apply Rd.cons)); rfl))
        (try simp only [Act.put, aP, aZ, aS])
        refine rg_take (i := 5) (v := ?_) rfl (by kernel_rfl) (by kernel_rfl) (by kernel_rfl) (fun _ _ _ h => h) rfl (by assumption) ?_ ?_
        rotate_left
        · intro w hSw; (go_simp; first | done | with_reducible rfl | rfl | omega | assumption | (simp; omega))
        (try simp only [Act.put, aP, aZ, aS])
        refine rg_take (i := 6) (v := ?_) rfl (by kernel_rfl) (by kernel_rfl) (by kernel_rfl) (fun _ _ _ h => h) rfl (by assumption) ?_ ?_
        rotate_left
        · intro w hSw; ((with_reducible apply yl_load); assumption; rfl; (repeat (first | with_reducible assumption | ((with_reducible apply Cl.own); exact rfl) | ((with_reducible apply Cl.blkL); exact rfl) | with_reducible apply Cl.cons)); rfl)
        (try simp only [Act.put, aP, aZ, aS])
        refine rg_take (i := 7) (v := ?_) rfl (by kernel_rfl) (by kernel_rfl) (by kernel_rfl) (fun _ _ _ h => h) rfl (by assumption) ?_ ?_
        rotate_left
        · intro w hSw; (go_simp; first | done | with_reducible rfl | rfl | omega | assumption | (simp; omega))
        (try simp only [Act.put, aP, aZ, aS])
        refine rg_take (i := 8) (v := ?_) rfl (by kernel_rfl) (by kernel_rfl) (by kernel_rfl) (fun _ _ _ h => h) rfl (by assumption) ?_ ?_
        rotate_left
        · intro w hSw; (go_simp; first | done | with_reducible rfl | rfl | omega | assumption | (simp; omega))
        (try simp only [Act.put, aP, aZ, aS])
        refine rg_take (i := 9) (v := ?_) rfl (by kernel_rfl) (by kernel_rfl) (by kernel_rfl) (fun _ _ _ h => h) rfl (by assumption) ?_ ?_
        rotate_left
        · intro w hSw; (first | ((with_reducible apply yl_loadAgg); assumption; rfl; (repeat (first | with_reducible exact Out.here _ | apply Out.there)); (simp); rfl; rfl) | ((with_reducible apply yl_loadAggR); assumption; rfl; (repeat (first | with_reducible assumption | with_reducible exact Rd.own | with_reducible exact Rd.nil | with_reducible apply Rd.cons)); rfl))
        (try simp only [Act.put, aP, aZ, aS])
        refine rg_one (i := 10) (by kernel_rfl) rfl rfl (fun Kp hKp => ?_)
        go_simp
        (refine (hS (by assumption) (by (repeat (first | with_reducible assumption | with_reducible exact Rd.own | with_reducible exact Rd.nil | with_reducible apply Rd.cons))) (by (repeat (first | with_reducible assumption | with_reducible exact Rd.own | with_reducible exact Rd.nil | with_reducible apply Rd.cons)))).mono ?_; rintro e110 w110 ⟨rfl, hs110⟩)
        (try go_wp2_with fail)
        refine rg_back (hK := hKp) ?_ (fun hsk110 => ?_)
        · (first | assumption | (apply Sat.drew; assumption) | (apply Sat.pick; assumption; (repeat (first | exact Pick.nil _ | with_reducible exact Pick.tail _ | with_reducible exact Out.here _ | apply Out.there | apply Pick.cons | apply Pick.drop))))
        clear hKp Kp
        have hsz110 := hs110
        (try simp only [Act.put, aP, aZ, aS])
        refine rg_take (i := 11) (v := .bool false) rfl (by kernel_rfl) (by kernel_rfl) (by kernel_rfl) (fun _ _ _ h => h) rfl (by assumption) ?_ ?_
        · intro w hSw; (go_simp; first | done | with_reducible rfl | rfl | omega | assumption | (simp; omega))
        (try simp only [Act.put, aP, aZ, aS])
        refine rg_done (by kernel_rfl) ?_
        refine hK9.out _ _ ?_
        (try clear hK9 K9)
        refine wp_cond_false rfl ?_
        refine wp_skip ?_
        refine hK8.out _ _ ?_
        (try clear hK8 K8)
        refine wk_reg ?_
        iterate 3 (refine pl_take (v := ?_) rfl ?_ ?_; rotate_left; (· (go_simp; first | done | with_reducible rfl | rfl | omega | assumption | (simp; omega))); (try simp only [Act.put, aP, aZ, aS]))
        refine pl_done ?_
        dsimp only [Exit.then]
        go_roundw
        case rel => (refine ⟨_, _, _, _, _, _, _, _, _, _, _, _, _, _, _, _, _, _, _, _, _, ?_, rfl⟩; exact ⟨k + 1, by go_num, by omega, (by unfold Hid; rw [List.take_add_one, List.take_add_one, Hk.out, Hx.out, Hy.out, Hβ.out.1 (by simp)]), (by assumption : Sat w0 _ _).pick (by (repeat (first | exact Pick.nil _ | exact Pick.tail _ | exact Out.here _ | apply Out.there | apply Pick.cons | apply Pick.drop)))⟩)
        case measure => simp [intOf]; omega
      | false =>
        refine wk_seq (fun K6 hK6 => ?_)
        refine wk_seq (fun K7 hK7 => ?_)
        refine wk_reg ?_
        iterate 4 (refine pl_take (v := ?_) rfl ?_ ?_; rotate_left; (· (first | ((with_reducible apply yl_load); assumption; rfl; (repeat (first | with_reducible assumption | ((with_reducible apply Cl.own); exact rfl) | ((with_reducible apply Cl.blkL); exact rfl) | with_reducible apply Cl.cons)); rfl) | (go_simp; first | done | with_reducible rfl | rfl | omega | assumption | (simp; omega)))); (try simp only [Act.put, aP, aZ, aS]))
        refine pl_take (v := .bool true) rfl ?_ ?_
        · (go_simp; first | done | with_reducible rfl | rfl | omega | assumption | (simp; omega))
        (try simp only [Act.put, aP, aZ, aS])
        refine pl_done ?_
        refine hK7.out _ _ ?_
        (try clear hK7 K7)
        refine wp_cond_true rfl ?_
        refine wp_skip ?_
        refine hK6.out _ _ ?_
        (try clear hK6 K6)
        refine wk_seq (fun K8 hK8 => ?_)
        refine wp_block ?_
        refine wk_seq (fun K9 hK9 => ?_)
        refine rg_start rfl (by assumption) (fun wr6 hsr6 => ?_)
        refine rg_take (i := 0) (v := ?_) rfl (by kernel_rfl) (by kernel_rfl) (by kernel_rfl) (fun _ _ _ h => h) rfl (by assumption) ?_ ?_
        rotate_left
        · intro w hSw; (go_simp; first | done | with_reducible rfl | rfl | omega | assumption | (simp; omega))
        (try simp only [Act.put, aP, aZ, aS])
        refine rg_take (i := 1) (v := ?_) rfl (by kernel_rfl) (by kernel_rfl) (by kernel_rfl) (fun _ _ _ h => h) rfl (by assumption) ?_ ?_
        rotate_left
        · intro w hSw; ((with_reducible apply yl_load); assumption; rfl; (repeat (first | with_reducible assumption | ((with_reducible apply Cl.own); exact rfl) | ((with_reducible apply Cl.blkL); exact rfl) | with_reducible apply Cl.cons)); rfl)
        (try simp only [Act.put, aP, aZ, aS])
        refine rg_take (i := 2) (v := ?_) rfl (by kernel_rfl) (by kernel_rfl) (by kernel_rfl) (fun _ _ _ h => h) rfl (by assumption) ?_ ?_
        rotate_left
        · intro w hSw; (go_simp; first | done | with_reducible rfl | rfl | omega | assumption | (simp; omega))
        (try simp only [Act.put, aP, aZ, aS])
        refine rg_take (i := 3) (v := ?_) rfl (by kernel_rfl) (by kernel_rfl) (by kernel_rfl) (fun _ _ _ h => h) rfl (by assumption) ?_ ?_
        rotate_left
        · intro w hSw; (go_simp; first | done | with_reducible rfl | rfl | omega | assumption | (simp; omega))
        (try simp only [Act.put, aP, aZ, aS])
        refine rg_take (i := 4) (v := ?_) rfl (by kernel_rfl) (by kernel_rfl) (by kernel_rfl) (fun _ _ _ h => h) rfl (by assumption) ?_ ?_
        rotate_left
        · intro w hSw; (first | ((with_reducible apply yl_loadAgg); assumption; rfl; (repeat (first | with_reducible exact Out.here _ | apply Out.there)); (simp); rfl; rfl) | ((with_reducible apply yl_loadAggR); assumption; rfl; (repeat (first | with_reducible assumption | with_reducible exact Rd.own | with_reducible exact Rd.nil | with_reducible apply Rd.cons)); rfl))
        (try simp only [Act.put, aP, aZ, aS])
        refine rg_take (i := 5) (v := ?_) rfl (by kernel_rfl) (by kernel_rfl) (by kernel_rfl) (fun _ _ _ h => h) rfl (by assumption) ?_ ?_
        rotate_left
        · intro w hSw; (go_simp; first | done | with_reducible rfl | rfl | omega | assumption | (simp; omega))
        (try simp only [Act.put, aP, aZ, aS])
        refine rg_take (i := 6) (v := ?_) rfl (by kernel_rfl) (by kernel_rfl) (by kernel_rfl) (fun _ _ _ h => h) rfl (by assumption) ?_ ?_
        rotate_left
        · intro w hSw; ((with_reducible apply yl_load); assumption; rfl; (repeat (first | with_reducible assumption | ((with_reducible apply Cl.own); exact rfl) | ((with_reducible apply Cl.blkL); exact rfl) | with_reducible apply Cl.cons)); rfl)
        (try simp only [Act.put, aP, aZ, aS])
        refine rg_take (i := 7) (v := ?_) rfl (by kernel_rfl) (by kernel_rfl) (by kernel_rfl) (fun _ _ _ h => h) rfl (by assumption) ?_ ?_
        rotate_left
        · intro w hSw; (go_simp; first | done | with_reducible rfl | rfl | omega | assumption | (simp; omega))
        (try simp only [Act.put, aP, aZ, aS])
        refine rg_take (i := 8) (v := ?_) rfl (by kernel_rfl) (by kernel_rfl) (by kernel_rfl) (fun _ _ _ h => h) rfl (by assumption) ?_ ?_
        rotate_left
        · intro w hSw; (go_simp; first | done | with_reducible rfl | rfl | omega | assumption | (simp; omega))
        (try simp only [Act.put, aP, aZ, aS])
        refine rg_take (i := 9) (v := ?_) rfl (by kernel_rfl) (by kernel_rfl) (by kernel_rfl) (fun _ _ _ h => h) rfl (by assumption) ?_ ?_
        rotate_left
        · intro w hSw; (first | ((with_reducible apply yl_loadAgg); assumption; rfl; (repeat (first | with_reducible exact Out.here _ | apply Out.there)); (simp); rfl; rfl) | ((with_reducible apply yl_loadAggR); assumption; rfl; (repeat (first | with_reducible assumption | with_reducible exact Rd.own | with_reducible exact Rd.nil | with_reducible apply Rd.cons)); rfl))
        (try simp only [Act.put, aP, aZ, aS])
        refine rg_one (i := 10) (by kernel_rfl) rfl rfl (fun Kp hKp => ?_)
        go_simp
        (refine (hS (by assumption) (by (repeat (first | with_reducible assumption | with_reducible exact Rd.own | with_reducible exact Rd.nil | with_reducible apply Rd.cons))) (by (repeat (first | with_reducible assumption | with_reducible exact Rd.own | with_reducible exact Rd.nil | with_reducible apply Rd.cons)))).mono ?_; rintro e110 w110 ⟨rfl, hs110⟩)
        (try go_wp2_with fail)
        refine rg_back (hK := hKp) ?_ (fun hsk110 => ?_)
        · (first | assumption | (apply Sat.drew; assumption) | (apply Sat.pick; assumption; (repeat (first | exact Pick.nil _ | with_reducible exact Pick.tail _ | with_reducible exact Out.here _ | apply Out.there | apply Pick.cons | apply Pick.drop))))
        clear hKp Kp
        have hsz110 := hs110
        (try simp only [Act.put, aP, aZ, aS])
        refine rg_take (i := 11) (v := .bool true) rfl (by kernel_rfl) (by kernel_rfl) (by kernel_rfl) (fun _ _ _ h => h) rfl (by assumption) ?_ ?_
        · intro w hSw; (go_simp; first | done | with_reducible rfl | rfl | omega | assumption | (simp; omega))
        (try simp only [Act.put, aP, aZ, aS])
        refine rg_done (by kernel_rfl) ?_
        refine hK9.out _ _ ?_
        (try clear hK9 K9)
        refine wp_cond_true rfl ?_
        refine wk_seq (fun K10 hK10 => ?_)
        refine wk_reg ?_
        refine pl_take (v := .bool false) rfl ?_ ?_
        · (go_simp; first | done | with_reducible rfl | rfl | omega | assumption | (simp; omega))
        (try simp only [Act.put, aP, aZ, aS])
        refine pl_done ?_
        refine hK10.out _ _ ?_
        (try clear hK10 K10)
        refine wp_ret ?_
        go_ret
        refine ⟨?_, (by assumption : Sat w0 _ _).pick (by (repeat (first | exact Pick.nil _ | exact Pick.tail _ | exact Out.here _ | apply Out.there | apply Pick.cons | apply Pick.drop)))⟩
        cases b with
        | false => rfl
        | true =>
          exfalso
          have h1 := Hb2.out.1 rfl
          have h2 := Hx.out
          rw [h1, Hy.out] at h2
          exact absurd (Hβ.out.2 (Option.some.inj h2).symm) (by simp)
    · obtain rfl : k = es.length := by omega
      refine wk_seq (fun K6 hK6 => ?_)
      refine wk_seq (fun K7 hK7 => ?_)
      refine wk_reg ?_
      iterate 4 (refine pl_take (v := ?_) rfl ?_ ?_; rotate_left; (· (first | ((with_reducible apply yl_load); assumption; rfl; (repeat (first | with_reducible assumption | ((with_reducible apply Cl.own); exact rfl) | ((with_reducible apply Cl.blkL); exact rfl) | with_reducible apply Cl.cons)); rfl) | (go_simp; first | done | with_reducible rfl | rfl | omega | assumption | (simp; omega)))); (try simp only [Act.put, aP, aZ, aS]))
      refine pl_take (v := .bool false) rfl ?_ ?_
      · (go_simp; first | done | with_reducible rfl | rfl | omega | assumption | (simp; omega))
      (try simp only [Act.put, aP, aZ, aS])
      refine pl_done ?_
      refine hK7.out _ _ ?_
      (try clear hK7 K7)
      refine wp_cond_false rfl ?_
      refine wp_exit ?_
      refine hK4.out _ _ ?_
      (try clear hK4 K4)
      refine wk_seq (fun K11 hK11 => ?_)
      refine wk_reg ?_
      refine pl_take (v := .bool true) rfl ?_ ?_
      · (go_simp; first | done | with_reducible rfl | rfl | omega | assumption | (simp; omega))
      (try simp only [Act.put, aP, aZ, aS])
      refine pl_done ?_
      refine hK11.out _ _ ?_
      (try clear hK11 K11)
      refine wp_ret ?_
      go_ret
      refine ⟨?_, (by assumption : Sat w0 _ _).pick (by (repeat (first | exact Pick.nil _ | exact Pick.tail _ | exact Out.here _ | apply Out.there | apply Pick.cons | apply Pick.drop)))⟩
      have h1 : es = es' := by have := Hk.out; rw [List.take_length, Hll.out, List.take_length] at this; exact this
      obtain rfl : b = true := Hb2.out.2 h1
      rfl
end Go.Proofs.Ytcedbmcnjckajaa
