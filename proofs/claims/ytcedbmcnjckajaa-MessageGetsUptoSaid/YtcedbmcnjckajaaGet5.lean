/-
  MessageGets: the walk.
-/
import Derived.Test.YtcedbmcnjckajaaGet2
import Derived.Test.YtcedbmcnjckajaaGet3
import Derived.Test.YtcedbmcnjckajaaGetL
import Derived.Test.YtcedbmcnjckajaaWire4
namespace Go.Proofs.Ytcedbmcnjckajaa
open Go Go.RowKit Sl Go.Shelf
set_option maxHeartbeats 20000000
set_option maxRecDepth 8000


theorem messageGets_walk {w0 w : World} {L : List HP} {A : Option Addr} {c : Nat} (b : List UInt8) (hb : b.length ≤ 1048576) (hs : Sat w0 w L) (hR : Rd w0 L A b.length 1 (B8 b)) :
    Calls Try.prog 6 #[.slice A b.length c] w (RetB w0 L true) := by
  obtain ⟨⟨⟨kd, fr, dn, tm, na, nb, nc, nd, yes, es, sv, dt⟩, e⟩, hg⟩ : ∃ x, getMsg b = x := ⟨_, rfl⟩
  obtain ⟨u1, u2, u3, u4⟩ := getMsg_bounds hg
  simp only at u1 u2 u3 u4
  have h64 : ∀ x ∈ es, In64 x.t ∧ In64 x.i ∧ In64 x.k := fun x hx => (u4 x hx).2
  have hG : ∀ {w : World} {L : List HP} {A : Option Addr} {c : Nat}, Sat w0 w L → Rd w0 L A b.length 1 (B8 b) → Calls Try.prog 17 #[.slice A b.length c] w (RetGM w0 L (⟨kd, fr, dn, tm, na, nb, nc, nd, yes, es, sv, dt⟩, e)) := fun hs h => by rw [← hg]; exact get_spec b (by omega) hs h
  have hG2 : ∀ {w : World} {L : List HP} {A : Option Addr} {c : Nat}, Sat w0 w L → Rd w0 L A b.length 1 (B8 b) → Calls Try.prog 18 #[.slice A b.length c] w (RetGM w0 L (⟨kd, fr, dn, tm, na, nb, nc, nd, yes, es, sv, dt⟩, e)) := fun hs h => by rw [← hg]; exact refGet_spec b hb hs h
  clear hg u4
  go_enter Try.func6, Try.ntmps6
  refine wk_seq (fun K0 hK0 => ?_)
  refine wk_reg ?_
  refine pl_take (v := .bool false) rfl ?_ ?_
  · (go_simp; first | done | with_reducible rfl | rfl | omega | assumption | (simp; omega))
  (try simp only [Act.put, aP, aZ, aS])
  refine pl_done ?_
  refine hK0.out _ _ ?_
  (try clear hK0 K0)
  refine wk_seq (fun K1 hK1 => ?_)
  refine wk_reg ?_
  refine pl_take (v := ?_) rfl ?_ ?_
  rotate_left
  · (go_simp; first | done | with_reducible rfl | rfl | omega | assumption | (simp; omega))
  (try simp only [Act.put, aP, aZ, aS])
  refine pl_eff rfl (fun Kp hKp => ?_)
  go_simp
  (refine (lent_spec b (by omega) (by assumption) hR).mono ?_; rintro e9 w9 ⟨g9, c9, rfl, hs9⟩)
  (try go_wp2_with fail)
  refine hKp.out _ _ ?_
  clear hKp Kp
  (try simp only [Act.put, aP, aZ, aS])
  refine pl_take (v := ?_) rfl ?_ ?_
  rotate_left
  · (go_simp; first | done | with_reducible rfl | rfl | omega | assumption | (simp; omega))
  (try simp only [Act.put, aP, aZ, aS])
  refine pl_done ?_
  refine hK1.out _ _ ?_
  (try clear hK1 K1)
  refine wk_seq (fun K2 hK2 => ?_)
  refine wk_reg ?_
  refine pl_take (v := ?_) rfl ?_ ?_
  rotate_left
  · (go_simp; first | done | with_reducible rfl | rfl | omega | assumption | (simp; omega))
  (try simp only [Act.put, aP, aZ, aS])
  refine pl_eff rfl (fun Kp hKp => ?_)
  go_simp
  (refine (hG (by assumption) (Rd.lent b)).mono ?_; rintro e12 w12 ⟨XA, XB, XC, Xa, Xb, Xc, xs, hxs, rfl, hs12⟩; have hE2 := ents_slV' (w0 := w0) (L := L) (A := XA) (c := Xa) (es := es) xs hxs h64; simp only [msgCells] at hs12 ⊢)
  (try go_wp2_with fail)
  refine hKp.out _ _ ?_
  clear hKp Kp
  (try simp only [Act.put, aP, aZ, aS])
  iterate 3 (refine pl_take (v := ?_) rfl ?_ ?_; rotate_left; (· (go_simp; first | done | with_reducible rfl | rfl | omega | assumption | (simp; omega))); (try simp only [Act.put, aP, aZ, aS]))
  refine pl_eff rfl (fun Kp hKp => ?_)
  ((with_reducible apply st_alloc); assumption; intro b4 w4 hs4; simp only [Value.cells] at hs4)
  refine hKp.out _ _ ?_
  clear hKp Kp
  (try simp only [Act.put, aP, aZ, aS])
  refine pl_eff rfl (fun Kp hKp => ?_)
  (first | ((with_reducible apply st_storeAll); assumption; rfl; (go_simp; rfl); (repeat (first | with_reducible exact Out.here _ | apply Out.there)); rfl; (focus (first | (simp [Value.oneCell']; done) | (simp [Value.cells, Value.oneCell']; done))); rfl; intro wr2_6 hsr2_6; simp only [Value.cells] at hsr2_6) | ((with_reducible apply st_store); assumption; rfl; (go_simp; rfl); (repeat (first | with_reducible exact Out.here _ | apply Out.there)); rfl; (first | (focus (simp [Value.oneCell']; done)) | (simp [Value.cells, Value.oneCell'])); (first | (focus (simp; done)) | (simp [Value.cells])); intro wr2_6 hsr2_6; simp only [upd, Value.cells] at hsr2_6))
  refine hKp.out _ _ ?_
  clear hKp Kp
  (try dsimp only [Act.put])
  refine pl_take (v := ?_) rfl ?_ ?_
  rotate_left
  · (go_simp; first | done | with_reducible rfl | rfl | omega | assumption | (simp; omega))
  (try simp only [Act.put, aP, aZ, aS])
  refine pl_done ?_
  refine hK2.out _ _ ?_
  (try clear hK2 K2)
  refine wk_seq (fun K3 hK3 => ?_)
  refine wk_reg ?_
  refine pl_take (v := ?_) rfl ?_ ?_
  rotate_left
  · (go_simp; first | done | with_reducible rfl | rfl | omega | assumption | (simp; omega))
  (try simp only [Act.put, aP, aZ, aS])
  refine pl_eff rfl (fun Kp hKp => ?_)
  go_simp
  (refine (hG2 (by assumption) (by (repeat (first | with_reducible assumption | with_reducible exact Rd.own | with_reducible exact Rd.nil | with_reducible apply Rd.cons)))).mono ?_; rintro e17 w17 ⟨YA, YB, YC, Ya, Yb, Yc, ys, hys, rfl, hs17⟩; have hE3 := ents_slV' (w0 := w0) (L := L) (A := YA) (c := Ya) (es := es) ys hys h64; simp only [msgCells] at hs17 ⊢)
  (try go_wp2_with fail)
  refine hKp.out _ _ ?_
  clear hKp Kp
  (try simp only [Act.put, aP, aZ, aS])
  iterate 3 (refine pl_take (v := ?_) rfl ?_ ?_; rotate_left; (· (go_simp; first | done | with_reducible rfl | rfl | omega | assumption | (simp; omega))); (try simp only [Act.put, aP, aZ, aS]))
  refine pl_eff rfl (fun Kp hKp => ?_)
  ((with_reducible apply st_alloc); assumption; intro b6 w6 hs6; simp only [Value.cells] at hs6)
  refine hKp.out _ _ ?_
  clear hKp Kp
  (try simp only [Act.put, aP, aZ, aS])
  refine pl_eff rfl (fun Kp hKp => ?_)
  (first | ((with_reducible apply st_storeAll); assumption; rfl; (go_simp; rfl); (repeat (first | with_reducible exact Out.here _ | apply Out.there)); rfl; (focus (first | (simp [Value.oneCell']; done) | (simp [Value.cells, Value.oneCell']; done))); rfl; intro wr3_6 hsr3_6; simp only [Value.cells] at hsr3_6) | ((with_reducible apply st_store); assumption; rfl; (go_simp; rfl); (repeat (first | with_reducible exact Out.here _ | apply Out.there)); rfl; (first | (focus (simp [Value.oneCell']; done)) | (simp [Value.cells, Value.oneCell'])); (first | (focus (simp; done)) | (simp [Value.cells])); intro wr3_6 hsr3_6; simp only [upd, Value.cells] at hsr3_6))
  refine hKp.out _ _ ?_
  clear hKp Kp
  (try dsimp only [Act.put])
  refine pl_take (v := ?_) rfl ?_ ?_
  rotate_left
  · (go_simp; first | done | with_reducible rfl | rfl | omega | assumption | (simp; omega))
  (try simp only [Act.put, aP, aZ, aS])
  refine pl_done ?_
  refine hK3.out _ _ ?_
  (try clear hK3 K3)
  refine wk_seq (fun K4 hK4 => ?_)
  refine wk_reg ?_
  iterate 2 (refine pl_take (v := ?_) rfl ?_ ?_; rotate_left; (· (first | ((with_reducible apply yl_loadAgg); assumption; rfl; (repeat (first | with_reducible exact Out.here _ | apply Out.there)); (simp); rfl; rfl) | ((with_reducible apply yl_loadAggR); assumption; rfl; (repeat (first | with_reducible assumption | with_reducible exact Rd.own | with_reducible exact Rd.nil | with_reducible apply Rd.cons)); rfl))); (try simp only [Act.put, aP, aZ, aS]))
  refine pl_eff rfl (fun Kp hKp => ?_)
  go_simp
  (refine (same4_spec kd fr dn tm na nb nc nd kd fr dn tm na nb nc nd yes yes es es sv sv dt dt true (by simp) (by omega) (by omega) (by omega) (by omega) (by assumption) ((SlV.mono EntV.mono).pick (by (repeat (first | exact Pick.nil _ | exact Pick.tail _ | exact Out.here _ | apply Out.there | apply Pick.cons | apply Pick.drop))) hE2) (by (repeat (first | with_reducible assumption | with_reducible exact Rd.own | with_reducible exact Rd.nil | with_reducible apply Rd.cons))) (by (repeat (first | with_reducible assumption | with_reducible exact Rd.own | with_reducible exact Rd.nil | with_reducible apply Rd.cons))) ((SlV.mono EntV.mono).pick (by (repeat (first | exact Pick.nil _ | exact Pick.tail _ | exact Out.here _ | apply Out.there | apply Pick.cons | apply Pick.drop))) hE3) (by (repeat (first | with_reducible assumption | with_reducible exact Rd.own | with_reducible exact Rd.nil | with_reducible apply Rd.cons))) (by (repeat (first | with_reducible assumption | with_reducible exact Rd.own | with_reducible exact Rd.nil | with_reducible apply Rd.cons)))).mono ?_; rintro e22 w22 ⟨rfl, hs22⟩)
  (try go_wp2_with fail)
  refine hKp.out _ _ ?_
  clear hKp Kp
  (try simp only [Act.put, aP, aZ, aS])
  refine pl_take (v := .bool true) rfl ?_ ?_
  · (go_simp; first | done | with_reducible rfl | rfl | omega | assumption | (simp; omega))
  (try simp only [Act.put, aP, aZ, aS])
  refine pl_take (v := ?_) (by kernel_rfl) ?_ ?_
  rotate_left
  · (go_simp; first | done | with_reducible rfl | rfl | omega | assumption | (simp; omega))
  (try simp only [Act.put, aP, aZ, aS])
  refine pl_eff (by kernel_rfl) (fun Kp hKp => ?_)
  go_simp
  ((refine (num4_spec _).mono ?_); rintro e25 w25 ⟨rfl, rfl⟩)
  (try go_wp2_with fail)
  refine hKp.out _ _ ?_
  clear hKp Kp
  (try simp only [Act.put, aP, aZ, aS])
  refine pl_take (v := ?_) (by kernel_rfl) ?_ ?_
  rotate_left
  · (go_simp; first | done | with_reducible rfl | rfl | omega | assumption | (simp; omega))
  (try simp only [Act.put, aP, aZ, aS])
  refine pl_take (v := .bool true) (by kernel_rfl) ?_ ?_
  · (go_simp; first | done | with_reducible rfl | rfl | omega | assumption | (simp; omega))
  (try simp only [Act.put, aP, aZ, aS])
  iterate 2 (refine pl_take (v := .bool true) rfl ?_ ?_; (· (go_simp; first | done | with_reducible rfl | rfl | omega | assumption | (simp; omega))); (try simp only [Act.put, aP, aZ, aS]))
  iterate 2 (refine pl_take (v := ?_) (by kernel_rfl) ?_ ?_; rotate_left; (· (go_simp; first | done | with_reducible rfl | rfl | omega | assumption | (simp; omega))); (try simp only [Act.put, aP, aZ, aS]))
  refine pl_eff (by kernel_rfl) (fun Kp hKp => ?_)
  go_simp
  (refine (stays_spec b (by omega) (by assumption) (by (repeat (first | with_reducible exact Out.here _ | apply Out.there))) (by (repeat (first | with_reducible assumption | with_reducible exact Rd.own | with_reducible exact Rd.nil | with_reducible apply Rd.cons)))).mono ?_; rintro e32 w32 ⟨rfl, hs32⟩)
  (try go_wp2_with fail)
  refine hKp.out _ _ ?_
  clear hKp Kp
  (try simp only [Act.put, aP, aZ, aS])
  iterate 2 (refine pl_take (v := .bool true) rfl ?_ ?_; (· (go_simp; first | done | with_reducible rfl | rfl | omega | assumption | (simp; omega))); (try simp only [Act.put, aP, aZ, aS]))
  refine pl_eff (by kernel_rfl) (fun Kp hKp => ?_)
  go_simp
  ((refine (knows4_spec (by assumption)).mono ?_); rintro e35 w35 ⟨rfl, hs35⟩)
  (try go_wp2_with fail)
  refine hKp.out _ _ ?_
  clear hKp Kp
  (try simp only [Act.put, aP, aZ, aS])
  iterate 2 (refine pl_take (v := .bool true) rfl ?_ ?_; (· (go_simp; first | done | with_reducible rfl | rfl | omega | assumption | (simp; omega))); (try simp only [Act.put, aP, aZ, aS]))
  refine pl_done ?_
  refine hK4.out _ _ ?_
  (try clear hK4 K4)
  refine wp_ret ?_
  go_ret
  exact ⟨rfl, (by assumption : Sat w0 _ _).pick (by (repeat (first | exact Pick.nil _ | exact Pick.tail _ | exact Out.here _ | apply Out.there | apply Pick.cons | apply Pick.drop)))⟩

end Go.Proofs.Ytcedbmcnjckajaa
