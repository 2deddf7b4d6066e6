/-
  WireEntries: the walk.
-/
import Derived.Test.YtaenimnjaekmmaaEnt3
import Derived.Test.YtaenimnjaekmmaaWire4
namespace Go.Proofs.Ytaenimnjaekmmaa
open Go Go.RowKit Sl Go.Shelf


theorem same_refl {w0 w : World} {L : List HP} {A B : Option Addr} {c c' : Nat} {t i k : Int} {d : List UInt8} (hs : Sat w0 w L) (hR : Rd w0 L A d.length 1 (B8 d)) (hR' : Rd w0 L B d.length 1 (B8 d)) :
    Calls Try.prog 37 #[.agg #[.int .i64 t, .int .i64 i, .int .i64 k, .slice A d.length c], .agg #[.int .i64 t, .int .i64 i, .int .i64 k, .slice B d.length c']] w (RetB w0 L true) := by
  have := same_spec (t := t) (i := i) (k := k) (t' := t) (i' := i) (k' := k) (c := c) (c' := c') hs hR hR'
  simpa using this

set_option maxRecDepth 8000 in
set_option maxHeartbeats 4000000 in
theorem wireEntries_walk {w0 w : World} {L : List HP} {A B : Option Addr} {c cb : Nat} (t i k : Int) (d bl : List UInt8) (hd : d.length ≤ 1048576) (hb : bl.length ≤ 1048576)
    (hs : Sat w0 w L) (hA : Rd w0 L A d.length 1 (B8 d)) (hB : Rd w0 L B bl.length 1 (B8 bl)) :
    Calls Try.prog 9 #[.agg #[.int .i64 t, .int .i64 i, .int .i64 k, .slice A d.length c], .slice B bl.length cb] w (RetB w0 L true) := by
  obtain ⟨⟨p, e⟩, hp⟩ : ∃ x, putEntry ⟨t, i, k, d⟩ = x := ⟨_, rfl⟩
  obtain ⟨⟨⟨qt, qi, qk, qd⟩, g⟩, hg⟩ : ∃ x, getEntry bl = x := ⟨_, rfl⟩
  have hqd := (getEntry_err hg).2
  simp only at hqd
  have hP : ∀ {w : World} {L : List HP} {A : Option Addr} {c : Nat}, Sat w0 w L → Rd w0 L A d.length 1 (B8 d) → Calls Try.prog 35 #[.agg #[.int .i64 t, .int .i64 i, .int .i64 k, .slice A d.length c]] w (RetT w0 L (p, e)) := fun hs hr => by rw [← hp]; exact putEntry_spec ⟨t, i, k, d⟩ (by simp only; omega) hs hr
  have hP2 : ∀ {w : World} {L : List HP} {A : Option Addr} {c : Nat}, Sat w0 w L → Rd w0 L A d.length 1 (B8 d) → Calls Try.prog 38 #[.agg #[.int .i64 t, .int .i64 i, .int .i64 k, .slice A d.length c]] w (RetT w0 L (p, e)) := fun hs hr => by rw [← hp]; exact refPutEntry_spec ⟨t, i, k, d⟩ (by simp only; omega) hs hr
  have hG : ∀ {w : World} {L : List HP} {A : Option Addr} {c : Nat}, Sat w0 w L → Rd w0 L A bl.length 1 (B8 bl) → Calls Try.prog 39 #[.slice A bl.length c] w (RetE w0 L (⟨qt, qi, qk, qd⟩, g)) := fun hs hr => by rw [← hg]; exact getEntry_spec bl (by omega) hs hr
  have hG2 : ∀ {w : World} {L : List HP} {A : Option Addr} {c : Nat}, Sat w0 w L → Rd w0 L A bl.length 1 (B8 bl) → Calls Try.prog 40 #[.slice A bl.length c] w (RetE w0 L (⟨qt, qi, qk, qd⟩, g)) := fun hs hr => by rw [← hg]; exact refGetEntry_spec bl (by omega) hs hr
  have hP3 : g = 0 → ∀ (w : World) (L : List HP) (A : Option Addr) (c : Nat), Sat w0 w L → Rd w0 L A qd.length 1 (B8 qd) → Calls Try.prog 35 #[.agg #[.int .i64 qt, .int .i64 qi, .int .i64 qk, .slice A qd.length c]] w (RetT w0 L (bl, 0)) := fun hg0 w L A c hs hr => by
    subst hg0
    obtain ⟨h1, h2⟩ := getEntry_back hg
    have : putEntry ⟨qt, qi, qk, qd⟩ = (bl, 0) := by unfold putEntry; rw [if_pos h1, ← h2]
    rw [← this]; exact putEntry_spec ⟨qt, qi, qk, qd⟩ (by simp only; omega) hs hr
  have hG3 : e = 0 → ∀ (w : World) (L : List HP) (A : Option Addr) (c : Nat), Sat w0 w L → Rd w0 L A p.length 1 (B8 p) → Calls Try.prog 39 #[.slice A p.length c] w (RetE w0 L (⟨t, i, k, d⟩, 0)) := fun he0 w L A c hs hr => by
    rcases putEntry_eq hp with ⟨h1, h2, _⟩ | ⟨_, _, h3⟩
    · have hl : p.length ≤ 4294967296 := by
        obtain ⟨_, g2, _, g4, _, g6, gl⟩ := rightE_iff h1
        simp only at g2 g4 g6 gl
        have l1 := num_len6 t.toNat (by omega)
        have l2 := num_len6 i.toNat (by omega)
        have l3 := num_len6 k.toNat (by omega)
        have l4 := num_len6 d.length (by omega)
        rw [h2]; simp only [entBytes, List.length_append]; omega
      rw [← getEntry_put h1, ← h2]; exact getEntry_spec p hl hs hr
    · omega
  have he : e = 0 ∨ e = 1 := by rcases putEntry_eq hp with ⟨_, _, h⟩ | ⟨_, _, h⟩ <;> omega
  have hgg := (getEntry_err hg).1
  clear hp hg
  rcases he with rfl | rfl
  · have hG4 := hG3 rfl
    clear hG3
    rcases hgg with rfl | rfl
    · have hP4 := hP3 rfl
      clear hP3
      go_enter Try.func9, Try.ntmps9
      refine wk_seq (fun K0 hK0 => ?_)
      refine wk_reg ?_
      refine pl_eff rfl (fun Kp hKp => ?_)
      ((with_reducible apply st_box); assumption; (go_simp; rfl); intro b2 w2 hs2; simp only [Value.cells] at hs2)
      refine hKp.out _ _ ?_
      clear hKp Kp
      (try simp only [Act.put, List.setIfInBounds_toArray, List.set_cons_zero, List.set_cons_succ])
      refine pl_take (v := .bool false) rfl ?_ ?_
      · (first | (go_simp; done) | (go_simp; with_reducible rfl) | (go_simp; rfl) | (go_simp; omega) | (go_simp; assumption) | (go_simp; simp; omega))
      (try simp only [Act.put, List.setIfInBounds_toArray, List.set_cons_zero, List.set_cons_succ])
      refine pl_done ?_
      refine hK0.out _ _ ?_
      clear hK0 K0
      refine wk_seq (fun K1 hK1 => ?_)
      refine wk_reg ?_
      refine pl_take (v := ?_) rfl ?_ ?_
      rotate_left
      · (first | (go_simp; done) | (go_simp; with_reducible rfl) | (go_simp; rfl) | (go_simp; omega) | (go_simp; assumption) | (go_simp; simp; omega))
      (try simp only [Act.put, List.setIfInBounds_toArray, List.set_cons_zero, List.set_cons_succ])
      refine pl_eff rfl (fun Kp hKp => ?_)
      go_simp
      ((refine (lent_spec bl (by omega) (by assumption) (by (repeat (first | with_reducible assumption | with_reducible exact Rd.own | with_reducible exact Rd.nil | with_reducible apply Rd.cons)))).mono ?_); rintro e20 w20 ⟨g20, c20, rfl, hs20⟩)
      (try go_wp2_with fail)
      refine hKp.out _ _ ?_
      clear hKp Kp
      (try simp only [Act.put, List.setIfInBounds_toArray, List.set_cons_zero, List.set_cons_succ])
      refine pl_take (v := ?_) rfl ?_ ?_
      rotate_left
      · (first | (go_simp; done) | (go_simp; with_reducible rfl) | (go_simp; rfl) | (go_simp; omega) | (go_simp; assumption) | (go_simp; simp; omega))
      (try simp only [Act.put, List.setIfInBounds_toArray, List.set_cons_zero, List.set_cons_succ])
      refine pl_done ?_
      refine hK1.out _ _ ?_
      clear hK1 K1
      refine wk_seq (fun K2 hK2 => ?_)
      refine wk_reg ?_
      refine pl_take (v := ?_) rfl ?_ ?_
      rotate_left
      · (first | ((with_reducible apply yl_loadAgg); assumption; rfl; (repeat (first | with_reducible exact Out.here _ | apply Out.there)); (simp); rfl; rfl) | ((with_reducible apply yl_loadAggR); assumption; rfl; (repeat (first | with_reducible assumption | with_reducible exact Rd.own | with_reducible exact Rd.nil | with_reducible apply Rd.cons)); rfl))
      (try simp only [Act.put, List.setIfInBounds_toArray, List.set_cons_zero, List.set_cons_succ])
      refine pl_eff rfl (fun Kp hKp => ?_)
      go_simp
      ((refine (own_spec (by omega) (by assumption) (by (repeat (first | with_reducible assumption | with_reducible exact Rd.own | with_reducible exact Rd.nil | with_reducible apply Rd.cons)))).mono ?_); rintro e22 w22 ⟨A22, c22, rfl, hs22⟩)
      (try go_wp2_with fail)
      refine hKp.out _ _ ?_
      clear hKp Kp
      (try simp only [Act.put, List.setIfInBounds_toArray, List.set_cons_zero, List.set_cons_succ])
      refine pl_eff rfl (fun Kp hKp => ?_)
      ((with_reducible apply st_alloc); assumption; intro b6 w6 hs6; simp only [Value.cells] at hs6)
      refine hKp.out _ _ ?_
      clear hKp Kp
      (try simp only [Act.put, List.setIfInBounds_toArray, List.set_cons_zero, List.set_cons_succ])
      refine pl_eff rfl (fun Kp hKp => ?_)
      (first | ((with_reducible apply st_storeAll); assumption; rfl; (go_simp; rfl); (repeat (first | with_reducible exact Out.here _ | apply Out.there)); rfl; (focus (first | (simp [Value.oneCell']; done) | (simp [Value.cells, Value.oneCell']; done))); rfl; intro wr2_3 hsr2_3; simp only [Value.cells] at hsr2_3) | ((with_reducible apply st_store); assumption; rfl; (go_simp; rfl); (repeat (first | with_reducible exact Out.here _ | apply Out.there)); rfl; (first | (focus (simp [Value.oneCell']; done)) | (simp [Value.cells, Value.oneCell'])); (first | (focus (simp; done)) | (simp [Value.cells])); intro wr2_3 hsr2_3; simp only [upd, Value.cells] at hsr2_3))
      refine hKp.out _ _ ?_
      clear hKp Kp
      dsimp only [Act.put]
      refine pl_done ?_
      refine hK2.out _ _ ?_
      clear hK2 K2
      refine wk_seq (fun K3 hK3 => ?_)
      refine wk_reg ?_
      refine pl_take (v := ?_) rfl ?_ ?_
      rotate_left
      · (first | ((with_reducible apply yl_loadAgg); assumption; rfl; (repeat (first | with_reducible exact Out.here _ | apply Out.there)); (simp); rfl; rfl) | ((with_reducible apply yl_loadAggR); assumption; rfl; (repeat (first | with_reducible assumption | with_reducible exact Rd.own | with_reducible exact Rd.nil | with_reducible apply Rd.cons)); rfl))
      (try simp only [Act.put, List.setIfInBounds_toArray, List.set_cons_zero, List.set_cons_succ])
      refine pl_eff rfl (fun Kp hKp => ?_)
      go_simp
      ((refine (hP (by assumption) (by (repeat (first | with_reducible assumption | with_reducible exact Rd.own | with_reducible exact Rd.nil | with_reducible apply Rd.cons)))).mono ?_); rintro e25 w25 ⟨A25, c25, rfl, hs25⟩)
      (try go_wp2_with fail)
      refine hKp.out _ _ ?_
      clear hKp Kp
      (try simp only [Act.put, List.setIfInBounds_toArray, List.set_cons_zero, List.set_cons_succ])
      refine pl_take (v := ?_) rfl ?_ ?_
      rotate_left
      · (first | (go_simp; done) | (go_simp; with_reducible rfl) | (go_simp; rfl) | (go_simp; omega) | (go_simp; assumption) | (go_simp; simp; omega))
      (try simp only [Act.put, List.setIfInBounds_toArray, List.set_cons_zero, List.set_cons_succ])
      refine pl_take (v := ?_) rfl ?_ ?_
      rotate_left
      · (first | (go_simp; done) | (go_simp; with_reducible rfl) | (go_simp; rfl) | (go_simp; omega) | (go_simp; assumption) | (go_simp; simp; omega))
      (try simp only [Act.put, List.setIfInBounds_toArray, List.set_cons_zero, List.set_cons_succ])
      refine pl_take (v := ?_) rfl ?_ ?_
      rotate_left
      · (first | (go_simp; done) | (go_simp; with_reducible rfl) | (go_simp; rfl) | (go_simp; omega) | (go_simp; assumption) | (go_simp; simp; omega))
      (try simp only [Act.put, List.setIfInBounds_toArray, List.set_cons_zero, List.set_cons_succ])
      refine pl_take (v := ?_) rfl ?_ ?_
      rotate_left
      · (first | (go_simp; done) | (go_simp; with_reducible rfl) | (go_simp; rfl) | (go_simp; omega) | (go_simp; assumption) | (go_simp; simp; omega))
      (try simp only [Act.put, List.setIfInBounds_toArray, List.set_cons_zero, List.set_cons_succ])
      refine pl_take (v := ?_) rfl ?_ ?_
      rotate_left
      · (first | (go_simp; done) | (go_simp; with_reducible rfl) | (go_simp; rfl) | (go_simp; omega) | (go_simp; assumption) | (go_simp; simp; omega))
      (try simp only [Act.put, List.setIfInBounds_toArray, List.set_cons_zero, List.set_cons_succ])
      refine pl_done ?_
      refine hK3.out _ _ ?_
      clear hK3 K3
      refine wk_seq (fun K4 hK4 => ?_)
      refine wk_reg ?_
      refine pl_take (v := ?_) rfl ?_ ?_
      rotate_left
      · (first | ((with_reducible apply yl_loadAgg); assumption; rfl; (repeat (first | with_reducible exact Out.here _ | apply Out.there)); (simp); rfl; rfl) | ((with_reducible apply yl_loadAggR); assumption; rfl; (repeat (first | with_reducible assumption | with_reducible exact Rd.own | with_reducible exact Rd.nil | with_reducible apply Rd.cons)); rfl))
      (try simp only [Act.put, List.setIfInBounds_toArray, List.set_cons_zero, List.set_cons_succ])
      refine pl_eff rfl (fun Kp hKp => ?_)
      go_simp
      ((refine (hP2 (by assumption) (by (repeat (first | with_reducible assumption | with_reducible exact Rd.own | with_reducible exact Rd.nil | with_reducible apply Rd.cons)))).mono ?_); rintro e30 w30 ⟨A30, c30, rfl, hs30⟩)
      (try go_wp2_with fail)
      refine hKp.out _ _ ?_
      clear hKp Kp
      (try simp only [Act.put, List.setIfInBounds_toArray, List.set_cons_zero, List.set_cons_succ])
      refine pl_take (v := ?_) rfl ?_ ?_
      rotate_left
      · (first | (go_simp; done) | (go_simp; with_reducible rfl) | (go_simp; rfl) | (go_simp; omega) | (go_simp; assumption) | (go_simp; simp; omega))
      (try simp only [Act.put, List.setIfInBounds_toArray, List.set_cons_zero, List.set_cons_succ])
      refine pl_take (v := ?_) rfl ?_ ?_
      rotate_left
      · (first | (go_simp; done) | (go_simp; with_reducible rfl) | (go_simp; rfl) | (go_simp; omega) | (go_simp; assumption) | (go_simp; simp; omega))
      (try simp only [Act.put, List.setIfInBounds_toArray, List.set_cons_zero, List.set_cons_succ])
      refine pl_take (v := ?_) rfl ?_ ?_
      rotate_left
      · (first | (go_simp; done) | (go_simp; with_reducible rfl) | (go_simp; rfl) | (go_simp; omega) | (go_simp; assumption) | (go_simp; simp; omega))
      (try simp only [Act.put, List.setIfInBounds_toArray, List.set_cons_zero, List.set_cons_succ])
      refine pl_take (v := ?_) rfl ?_ ?_
      rotate_left
      · (first | (go_simp; done) | (go_simp; with_reducible rfl) | (go_simp; rfl) | (go_simp; omega) | (go_simp; assumption) | (go_simp; simp; omega))
      (try simp only [Act.put, List.setIfInBounds_toArray, List.set_cons_zero, List.set_cons_succ])
      refine pl_take (v := ?_) rfl ?_ ?_
      rotate_left
      · (first | (go_simp; done) | (go_simp; with_reducible rfl) | (go_simp; rfl) | (go_simp; omega) | (go_simp; assumption) | (go_simp; simp; omega))
      (try simp only [Act.put, List.setIfInBounds_toArray, List.set_cons_zero, List.set_cons_succ])
      refine pl_done ?_
      refine hK4.out _ _ ?_
      clear hK4 K4
      refine wk_seq (fun K5 hK5 => ?_)
      refine wk_reg ?_
      refine pl_take (v := ?_) rfl ?_ ?_
      rotate_left
      · (first | (go_simp; done) | (go_simp; with_reducible rfl) | (go_simp; rfl) | (go_simp; omega) | (go_simp; assumption) | (go_simp; simp; omega))
      (try simp only [Act.put, List.setIfInBounds_toArray, List.set_cons_zero, List.set_cons_succ])
      refine pl_eff rfl (fun Kp hKp => ?_)
      go_simp
      ((refine (hG (by assumption) (by (repeat (first | with_reducible exact Rd.lent bl | with_reducible assumption | with_reducible apply Rd.cons)))).mono ?_); rintro e35 w35 ⟨A35, c35, rfl, hs35⟩)
      (try go_wp2_with fail)
      refine hKp.out _ _ ?_
      clear hKp Kp
      (try simp only [Act.put, List.setIfInBounds_toArray, List.set_cons_zero, List.set_cons_succ])
      refine pl_take (v := ?_) rfl ?_ ?_
      rotate_left
      · (first | (go_simp; done) | (go_simp; with_reducible rfl) | (go_simp; rfl) | (go_simp; omega) | (go_simp; assumption) | (go_simp; simp; omega))
      (try simp only [Act.put, List.setIfInBounds_toArray, List.set_cons_zero, List.set_cons_succ])
      refine pl_take (v := ?_) rfl ?_ ?_
      rotate_left
      · (first | (go_simp; done) | (go_simp; with_reducible rfl) | (go_simp; rfl) | (go_simp; omega) | (go_simp; assumption) | (go_simp; simp; omega))
      (try simp only [Act.put, List.setIfInBounds_toArray, List.set_cons_zero, List.set_cons_succ])
      refine pl_take (v := ?_) rfl ?_ ?_
      rotate_left
      · (first | (go_simp; done) | (go_simp; with_reducible rfl) | (go_simp; rfl) | (go_simp; omega) | (go_simp; assumption) | (go_simp; simp; omega))
      (try simp only [Act.put, List.setIfInBounds_toArray, List.set_cons_zero, List.set_cons_succ])
      refine pl_eff rfl (fun Kp hKp => ?_)
      ((with_reducible apply st_alloc); assumption; intro b11 w11 hs11; simp only [Value.cells] at hs11)
      refine hKp.out _ _ ?_
      clear hKp Kp
      (try simp only [Act.put, List.setIfInBounds_toArray, List.set_cons_zero, List.set_cons_succ])
      refine pl_eff rfl (fun Kp hKp => ?_)
      (first | ((with_reducible apply st_storeAll); assumption; rfl; (go_simp; rfl); (repeat (first | with_reducible exact Out.here _ | apply Out.there)); rfl; (focus (first | (simp [Value.oneCell']; done) | (simp [Value.cells, Value.oneCell']; done))); rfl; intro wr5_6 hsr5_6; simp only [Value.cells] at hsr5_6) | ((with_reducible apply st_store); assumption; rfl; (go_simp; rfl); (repeat (first | with_reducible exact Out.here _ | apply Out.there)); rfl; (first | (focus (simp [Value.oneCell']; done)) | (simp [Value.cells, Value.oneCell'])); (first | (focus (simp; done)) | (simp [Value.cells])); intro wr5_6 hsr5_6; simp only [upd, Value.cells] at hsr5_6))
      refine hKp.out _ _ ?_
      clear hKp Kp
      dsimp only [Act.put]
      refine pl_take (v := ?_) rfl ?_ ?_
      rotate_left
      · (first | (go_simp; done) | (go_simp; with_reducible rfl) | (go_simp; rfl) | (go_simp; omega) | (go_simp; assumption) | (go_simp; simp; omega))
      (try simp only [Act.put, List.setIfInBounds_toArray, List.set_cons_zero, List.set_cons_succ])
      refine pl_done ?_
      refine hK5.out _ _ ?_
      clear hK5 K5
      refine wk_seq (fun K6 hK6 => ?_)
      refine wk_reg ?_
      refine pl_take (v := ?_) rfl ?_ ?_
      rotate_left
      · (first | (go_simp; done) | (go_simp; with_reducible rfl) | (go_simp; rfl) | (go_simp; omega) | (go_simp; assumption) | (go_simp; simp; omega))
      (try simp only [Act.put, List.setIfInBounds_toArray, List.set_cons_zero, List.set_cons_succ])
      refine pl_eff rfl (fun Kp hKp => ?_)
      go_simp
      ((refine (hG2 (by assumption) (by (repeat (first | with_reducible assumption | with_reducible exact Rd.own | with_reducible exact Rd.nil | with_reducible apply Rd.cons)))).mono ?_); rintro e40 w40 ⟨A40, c40, rfl, hs40⟩)
      (try go_wp2_with fail)
      refine hKp.out _ _ ?_
      clear hKp Kp
      (try simp only [Act.put, List.setIfInBounds_toArray, List.set_cons_zero, List.set_cons_succ])
      refine pl_take (v := ?_) rfl ?_ ?_
      rotate_left
      · (first | (go_simp; done) | (go_simp; with_reducible rfl) | (go_simp; rfl) | (go_simp; omega) | (go_simp; assumption) | (go_simp; simp; omega))
      (try simp only [Act.put, List.setIfInBounds_toArray, List.set_cons_zero, List.set_cons_succ])
      refine pl_take (v := ?_) rfl ?_ ?_
      rotate_left
      · (first | (go_simp; done) | (go_simp; with_reducible rfl) | (go_simp; rfl) | (go_simp; omega) | (go_simp; assumption) | (go_simp; simp; omega))
      (try simp only [Act.put, List.setIfInBounds_toArray, List.set_cons_zero, List.set_cons_succ])
      refine pl_take (v := ?_) rfl ?_ ?_
      rotate_left
      · (first | (go_simp; done) | (go_simp; with_reducible rfl) | (go_simp; rfl) | (go_simp; omega) | (go_simp; assumption) | (go_simp; simp; omega))
      (try simp only [Act.put, List.setIfInBounds_toArray, List.set_cons_zero, List.set_cons_succ])
      refine pl_eff rfl (fun Kp hKp => ?_)
      ((with_reducible apply st_alloc); assumption; intro b13 w13 hs13; simp only [Value.cells] at hs13)
      refine hKp.out _ _ ?_
      clear hKp Kp
      (try simp only [Act.put, List.setIfInBounds_toArray, List.set_cons_zero, List.set_cons_succ])
      refine pl_eff rfl (fun Kp hKp => ?_)
      (first | ((with_reducible apply st_storeAll); assumption; rfl; (go_simp; rfl); (repeat (first | with_reducible exact Out.here _ | apply Out.there)); rfl; (focus (first | (simp [Value.oneCell']; done) | (simp [Value.cells, Value.oneCell']; done))); rfl; intro wr6_6 hsr6_6; simp only [Value.cells] at hsr6_6) | ((with_reducible apply st_store); assumption; rfl; (go_simp; rfl); (repeat (first | with_reducible exact Out.here _ | apply Out.there)); rfl; (first | (focus (simp [Value.oneCell']; done)) | (simp [Value.cells, Value.oneCell'])); (first | (focus (simp; done)) | (simp [Value.cells])); intro wr6_6 hsr6_6; simp only [upd, Value.cells] at hsr6_6))
      refine hKp.out _ _ ?_
      clear hKp Kp
      dsimp only [Act.put]
      refine pl_take (v := ?_) rfl ?_ ?_
      rotate_left
      · (first | (go_simp; done) | (go_simp; with_reducible rfl) | (go_simp; rfl) | (go_simp; omega) | (go_simp; assumption) | (go_simp; simp; omega))
      (try simp only [Act.put, List.setIfInBounds_toArray, List.set_cons_zero, List.set_cons_succ])
      refine pl_done ?_
      refine hK6.out _ _ ?_
      clear hK6 K6
      refine wk_seq (fun K7 hK7 => ?_)
      refine wk_seq (fun K8 hK8 => ?_)
      refine wk_reg ?_
      refine pl_take (v := ?_) rfl ?_ ?_
      rotate_left
      · (first | (go_simp; done) | (go_simp; with_reducible rfl) | (go_simp; rfl) | (go_simp; omega) | (go_simp; assumption) | (go_simp; simp; omega))
      (try simp only [Act.put, List.setIfInBounds_toArray, List.set_cons_zero, List.set_cons_succ])
      refine pl_take (v := ?_) rfl ?_ ?_
      rotate_left
      · (first | ((with_reducible apply yl_b2s); assumption; rfl; (repeat (first | with_reducible assumption | with_reducible exact Rd.own | with_reducible exact Rd.nil | with_reducible apply Rd.cons)); rfl) | (first | (go_simp; done) | (go_simp; with_reducible rfl) | (go_simp; rfl) | (go_simp; omega) | (go_simp; assumption) | (go_simp; simp; omega)))
      (try simp only [Act.put, List.setIfInBounds_toArray, List.set_cons_zero, List.set_cons_succ])
      refine pl_take (v := ?_) rfl ?_ ?_
      rotate_left
      · (first | (go_simp; done) | (go_simp; with_reducible rfl) | (go_simp; rfl) | (go_simp; omega) | (go_simp; assumption) | (go_simp; simp; omega))
      (try simp only [Act.put, List.setIfInBounds_toArray, List.set_cons_zero, List.set_cons_succ])
      refine pl_take (v := ?_) rfl ?_ ?_
      rotate_left
      · (first | ((with_reducible apply yl_b2s); assumption; rfl; (repeat (first | with_reducible assumption | with_reducible exact Rd.own | with_reducible exact Rd.nil | with_reducible apply Rd.cons)); rfl) | (first | (go_simp; done) | (go_simp; with_reducible rfl) | (go_simp; rfl) | (go_simp; omega) | (go_simp; assumption) | (go_simp; simp; omega)))
      (try simp only [Act.put, List.setIfInBounds_toArray, List.set_cons_zero, List.set_cons_succ])
      refine pl_take (v := .bool false) rfl ?_ ?_
      · (first | (go_simp; done) | (go_simp; with_reducible rfl) | (go_simp; rfl) | (go_simp; omega) | (go_simp; assumption) | (go_simp; simp; omega))
      (try simp only [Act.put, List.setIfInBounds_toArray, List.set_cons_zero, List.set_cons_succ])
      refine pl_take (v := .bool false) rfl ?_ ?_
      · (first | (go_simp; done) | (go_simp; with_reducible rfl) | (go_simp; rfl) | (go_simp; omega) | (go_simp; assumption) | (go_simp; simp; omega))
      (try simp only [Act.put, List.setIfInBounds_toArray, List.set_cons_zero, List.set_cons_succ])
      refine pl_take (v := ?_) (by kernel_rfl) ?_ ?_
      rotate_left
      · (first | (go_simp; done) | (go_simp; with_reducible rfl) | (go_simp; rfl) | (go_simp; omega) | (go_simp; assumption) | (go_simp; simp; omega))
      (try simp only [Act.put, List.setIfInBounds_toArray, List.set_cons_zero, List.set_cons_succ])
      refine pl_eff (by kernel_rfl) (fun Kp hKp => ?_)
      go_simp
      ((refine (errnum_spec _).mono ?_); rintro e50 w50 ⟨rfl, rfl⟩)
      (try go_wp2_with fail)
      refine hKp.out _ _ ?_
      clear hKp Kp
      (try simp only [Act.put, List.setIfInBounds_toArray, List.set_cons_zero, List.set_cons_succ])
      refine pl_take (v := ?_) (by kernel_rfl) ?_ ?_
      rotate_left
      · (first | (go_simp; done) | (go_simp; with_reducible rfl) | (go_simp; rfl) | (go_simp; omega) | (go_simp; assumption) | (go_simp; simp; omega))
      (try simp only [Act.put, List.setIfInBounds_toArray, List.set_cons_zero, List.set_cons_succ])
      refine pl_take (v := .bool false) (by kernel_rfl) ?_ ?_
      · (first | (go_simp; done) | (go_simp; with_reducible rfl) | (go_simp; rfl) | (go_simp; omega) | (go_simp; assumption) | (go_simp; simp; omega))
      (try simp only [Act.put, List.setIfInBounds_toArray, List.set_cons_zero, List.set_cons_succ])
      refine pl_take (v := .bool false) rfl ?_ ?_
      · (first | (go_simp; done) | (go_simp; with_reducible rfl) | (go_simp; rfl) | (go_simp; omega) | (go_simp; assumption) | (go_simp; simp; omega))
      (try simp only [Act.put, List.setIfInBounds_toArray, List.set_cons_zero, List.set_cons_succ])
      refine pl_take (v := .bool false) rfl ?_ ?_
      · (first | (go_simp; done) | (go_simp; with_reducible rfl) | (go_simp; rfl) | (go_simp; omega) | (go_simp; assumption) | (go_simp; simp; omega))
      (try simp only [Act.put, List.setIfInBounds_toArray, List.set_cons_zero, List.set_cons_succ])
      refine pl_take (v := ?_) (by kernel_rfl) ?_ ?_
      rotate_left
      · (first | ((with_reducible apply yl_loadAgg); assumption; rfl; (repeat (first | with_reducible exact Out.here _ | apply Out.there)); (simp); rfl; rfl) | ((with_reducible apply yl_loadAggR); assumption; rfl; (repeat (first | with_reducible assumption | with_reducible exact Rd.own | with_reducible exact Rd.nil | with_reducible apply Rd.cons)); rfl))
      (try simp only [Act.put, List.setIfInBounds_toArray, List.set_cons_zero, List.set_cons_succ])
      refine pl_take (v := ?_) (by kernel_rfl) ?_ ?_
      rotate_left
      · (first | ((with_reducible apply yl_loadAgg); assumption; rfl; (repeat (first | with_reducible exact Out.here _ | apply Out.there)); (simp); rfl; rfl) | ((with_reducible apply yl_loadAggR); assumption; rfl; (repeat (first | with_reducible assumption | with_reducible exact Rd.own | with_reducible exact Rd.nil | with_reducible apply Rd.cons)); rfl))
      (try simp only [Act.put, List.setIfInBounds_toArray, List.set_cons_zero, List.set_cons_succ])
      refine pl_eff (by kernel_rfl) (fun Kp hKp => ?_)
      go_simp
      ((refine (same_refl (by assumption) (by (repeat (first | with_reducible assumption | with_reducible exact Rd.own | with_reducible exact Rd.nil | with_reducible apply Rd.cons))) (by (repeat (first | with_reducible assumption | with_reducible exact Rd.own | with_reducible exact Rd.nil | with_reducible apply Rd.cons)))).mono ?_); rintro e57 w57 ⟨rfl, hs57⟩)
      (try go_wp2_with fail)
      refine hKp.out _ _ ?_
      clear hKp Kp
      (try simp only [Act.put, List.setIfInBounds_toArray, List.set_cons_zero, List.set_cons_succ])
      refine pl_take (v := .bool false) (by kernel_rfl) ?_ ?_
      · (first | (go_simp; done) | (go_simp; with_reducible rfl) | (go_simp; rfl) | (go_simp; omega) | (go_simp; assumption) | (go_simp; simp; omega))
      (try simp only [Act.put, List.setIfInBounds_toArray, List.set_cons_zero, List.set_cons_succ])
      refine pl_take (v := .bool false) rfl ?_ ?_
      · (first | (go_simp; done) | (go_simp; with_reducible rfl) | (go_simp; rfl) | (go_simp; omega) | (go_simp; assumption) | (go_simp; simp; omega))
      (try simp only [Act.put, List.setIfInBounds_toArray, List.set_cons_zero, List.set_cons_succ])
      refine pl_take (v := .bool false) rfl ?_ ?_
      · (first | (go_simp; done) | (go_simp; with_reducible rfl) | (go_simp; rfl) | (go_simp; omega) | (go_simp; assumption) | (go_simp; simp; omega))
      (try simp only [Act.put, List.setIfInBounds_toArray, List.set_cons_zero, List.set_cons_succ])
      refine pl_take (v := ?_) (by kernel_rfl) ?_ ?_
      rotate_left
      · (first | (go_simp; done) | (go_simp; with_reducible rfl) | (go_simp; rfl) | (go_simp; omega) | (go_simp; assumption) | (go_simp; simp; omega))
      (try simp only [Act.put, List.setIfInBounds_toArray, List.set_cons_zero, List.set_cons_succ])
      refine pl_eff (by kernel_rfl) (fun Kp hKp => ?_)
      go_simp
      ((refine (errnum_spec _).mono ?_); rintro e62 w62 ⟨rfl, rfl⟩)
      (try go_wp2_with fail)
      refine hKp.out _ _ ?_
      clear hKp Kp
      (try simp only [Act.put, List.setIfInBounds_toArray, List.set_cons_zero, List.set_cons_succ])
      refine pl_take (v := ?_) (by kernel_rfl) ?_ ?_
      rotate_left
      · (first | (go_simp; done) | (go_simp; with_reducible rfl) | (go_simp; rfl) | (go_simp; omega) | (go_simp; assumption) | (go_simp; simp; omega))
      (try simp only [Act.put, List.setIfInBounds_toArray, List.set_cons_zero, List.set_cons_succ])
      refine pl_take (v := .bool false) (by kernel_rfl) ?_ ?_
      · (first | (go_simp; done) | (go_simp; with_reducible rfl) | (go_simp; rfl) | (go_simp; omega) | (go_simp; assumption) | (go_simp; simp; omega))
      (try simp only [Act.put, List.setIfInBounds_toArray, List.set_cons_zero, List.set_cons_succ])
      refine pl_take (v := .bool false) rfl ?_ ?_
      · (first | (go_simp; done) | (go_simp; with_reducible rfl) | (go_simp; rfl) | (go_simp; omega) | (go_simp; assumption) | (go_simp; simp; omega))
      (try simp only [Act.put, List.setIfInBounds_toArray, List.set_cons_zero, List.set_cons_succ])
      refine pl_take (v := .bool false) rfl ?_ ?_
      · (first | (go_simp; done) | (go_simp; with_reducible rfl) | (go_simp; rfl) | (go_simp; omega) | (go_simp; assumption) | (go_simp; simp; omega))
      (try simp only [Act.put, List.setIfInBounds_toArray, List.set_cons_zero, List.set_cons_succ])
      refine pl_take (v := ?_) (by kernel_rfl) ?_ ?_
      rotate_left
      · (first | ((with_reducible apply yl_loadAgg); assumption; rfl; (repeat (first | with_reducible exact Out.here _ | apply Out.there)); (simp); rfl; rfl) | ((with_reducible apply yl_loadAggR); assumption; rfl; (repeat (first | with_reducible assumption | with_reducible exact Rd.own | with_reducible exact Rd.nil | with_reducible apply Rd.cons)); rfl))
      (try simp only [Act.put, List.setIfInBounds_toArray, List.set_cons_zero, List.set_cons_succ])
      refine pl_take (v := ?_) (by kernel_rfl) ?_ ?_
      rotate_left
      · (first | ((with_reducible apply yl_loadAgg); assumption; rfl; (repeat (first | with_reducible exact Out.here _ | apply Out.there)); (simp); rfl; rfl) | ((with_reducible apply yl_loadAggR); assumption; rfl; (repeat (first | with_reducible assumption | with_reducible exact Rd.own | with_reducible exact Rd.nil | with_reducible apply Rd.cons)); rfl))
      (try simp only [Act.put, List.setIfInBounds_toArray, List.set_cons_zero, List.set_cons_succ])
      refine pl_eff (by kernel_rfl) (fun Kp hKp => ?_)
      go_simp
      ((refine (same_refl (by assumption) (by (repeat (first | with_reducible assumption | with_reducible exact Rd.own | with_reducible exact Rd.nil | with_reducible apply Rd.cons))) (by (repeat (first | with_reducible assumption | with_reducible exact Rd.own | with_reducible exact Rd.nil | with_reducible apply Rd.cons)))).mono ?_); rintro e69 w69 ⟨rfl, hs69⟩)
      (try go_wp2_with fail)
      refine hKp.out _ _ ?_
      clear hKp Kp
      (try simp only [Act.put, List.setIfInBounds_toArray, List.set_cons_zero, List.set_cons_succ])
      refine pl_take (v := .bool false) (by kernel_rfl) ?_ ?_
      · (first | (go_simp; done) | (go_simp; with_reducible rfl) | (go_simp; rfl) | (go_simp; omega) | (go_simp; assumption) | (go_simp; simp; omega))
      (try simp only [Act.put, List.setIfInBounds_toArray, List.set_cons_zero, List.set_cons_succ])
      refine pl_take (v := .bool false) rfl ?_ ?_
      · (first | (go_simp; done) | (go_simp; with_reducible rfl) | (go_simp; rfl) | (go_simp; omega) | (go_simp; assumption) | (go_simp; simp; omega))
      (try simp only [Act.put, List.setIfInBounds_toArray, List.set_cons_zero, List.set_cons_succ])
      refine pl_take (v := .bool false) rfl ?_ ?_
      · (first | (go_simp; done) | (go_simp; with_reducible rfl) | (go_simp; rfl) | (go_simp; omega) | (go_simp; assumption) | (go_simp; simp; omega))
      (try simp only [Act.put, List.setIfInBounds_toArray, List.set_cons_zero, List.set_cons_succ])
      refine pl_take (v := ?_) (by kernel_rfl) ?_ ?_
      rotate_left
      · (first | (go_simp; done) | (go_simp; with_reducible rfl) | (go_simp; rfl) | (go_simp; omega) | (go_simp; assumption) | (go_simp; simp; omega))
      (try simp only [Act.put, List.setIfInBounds_toArray, List.set_cons_zero, List.set_cons_succ])
      refine pl_take (v := ?_) (by kernel_rfl) ?_ ?_
      rotate_left
      · (first | (go_simp; done) | (go_simp; with_reducible rfl) | (go_simp; rfl) | (go_simp; omega) | (go_simp; assumption) | (go_simp; simp; omega))
      (try simp only [Act.put, List.setIfInBounds_toArray, List.set_cons_zero, List.set_cons_succ])
      refine pl_eff (by kernel_rfl) (fun Kp hKp => ?_)
      go_simp
      ((refine (stays_spec bl (by omega) (by assumption) (by (repeat (first | with_reducible exact Out.here _ | apply Out.there))) (by (repeat (first | with_reducible assumption | with_reducible exact Rd.own | with_reducible exact Rd.nil | with_reducible apply Rd.cons)))).mono ?_); rintro e75 w75 ⟨rfl, hs75⟩)
      (try go_wp2_with fail)
      refine hKp.out _ _ ?_
      clear hKp Kp
      (try simp only [Act.put, List.setIfInBounds_toArray, List.set_cons_zero, List.set_cons_succ])
      refine pl_take (v := .bool false) (by kernel_rfl) ?_ ?_
      · (first | (go_simp; done) | (go_simp; with_reducible rfl) | (go_simp; rfl) | (go_simp; omega) | (go_simp; assumption) | (go_simp; simp; omega))
      (try simp only [Act.put, List.setIfInBounds_toArray, List.set_cons_zero, List.set_cons_succ])
      refine pl_take (v := .bool false) rfl ?_ ?_
      · (first | (go_simp; done) | (go_simp; with_reducible rfl) | (go_simp; rfl) | (go_simp; omega) | (go_simp; assumption) | (go_simp; simp; omega))
      (try simp only [Act.put, List.setIfInBounds_toArray, List.set_cons_zero, List.set_cons_succ])
      refine pl_done ?_
      refine hK8.out _ _ ?_
      clear hK8 K8
      refine wp_cond_false rfl ?_
      refine wp_skip ?_
      refine hK7.out _ _ ?_
      clear hK7 K7
      refine wk_seq (fun K10 hK10 => ?_)
      refine wk_seq (fun K11 hK11 => ?_)
      refine wk_reg ?_
      refine pl_take (v := ?_) rfl ?_ ?_
      rotate_left
      · (first | (go_simp; done) | (go_simp; with_reducible rfl) | (go_simp; rfl) | (go_simp; omega) | (go_simp; assumption) | (go_simp; simp; omega))
      (try simp only [Act.put, List.setIfInBounds_toArray, List.set_cons_zero, List.set_cons_succ])
      refine pl_eff rfl (fun Kp hKp => ?_)
      go_simp
      ((refine (errnum_spec _).mono ?_); rintro e79 w79 ⟨rfl, rfl⟩)
      (try go_wp2_with fail)
      refine hKp.out _ _ ?_
      clear hKp Kp
      (try simp only [Act.put, List.setIfInBounds_toArray, List.set_cons_zero, List.set_cons_succ])
      refine pl_take (v := .bool true) rfl ?_ ?_
      · (first | (go_simp; done) | (go_simp; with_reducible rfl) | (go_simp; rfl) | (go_simp; omega) | (go_simp; assumption) | (go_simp; simp; omega))
      (try simp only [Act.put, List.setIfInBounds_toArray, List.set_cons_zero, List.set_cons_succ])
      refine pl_done ?_
      refine hK11.out _ _ ?_
      clear hK11 K11
      refine wp_cond_true rfl ?_
      refine wk_seq (fun K12 hK12 => ?_)
      refine wk_reg ?_
      refine pl_take (v := ?_) rfl ?_ ?_
      rotate_left
      · (first | (go_simp; done) | (go_simp; with_reducible rfl) | (go_simp; rfl) | (go_simp; omega) | (go_simp; assumption) | (go_simp; simp; omega))
      (try simp only [Act.put, List.setIfInBounds_toArray, List.set_cons_zero, List.set_cons_succ])
      refine pl_eff rfl (fun Kp hKp => ?_)
      go_simp
      (refine (hG4 _ _ _ _ (by assumption) (by (repeat (first | with_reducible assumption | with_reducible exact Rd.own | with_reducible exact Rd.nil | with_reducible apply Rd.cons)))).mono ?_; rintro e83 w83 ⟨A83, c83, rfl, hs83⟩)
      (try go_wp2_with fail)
      refine hKp.out _ _ ?_
      clear hKp Kp
      (try simp only [Act.put, List.setIfInBounds_toArray, List.set_cons_zero, List.set_cons_succ])
      refine pl_take (v := ?_) rfl ?_ ?_
      rotate_left
      · (first | (go_simp; done) | (go_simp; with_reducible rfl) | (go_simp; rfl) | (go_simp; omega) | (go_simp; assumption) | (go_simp; simp; omega))
      (try simp only [Act.put, List.setIfInBounds_toArray, List.set_cons_zero, List.set_cons_succ])
      refine pl_take (v := ?_) rfl ?_ ?_
      rotate_left
      · (first | (go_simp; done) | (go_simp; with_reducible rfl) | (go_simp; rfl) | (go_simp; omega) | (go_simp; assumption) | (go_simp; simp; omega))
      (try simp only [Act.put, List.setIfInBounds_toArray, List.set_cons_zero, List.set_cons_succ])
      refine pl_take (v := ?_) rfl ?_ ?_
      rotate_left
      · (first | (go_simp; done) | (go_simp; with_reducible rfl) | (go_simp; rfl) | (go_simp; omega) | (go_simp; assumption) | (go_simp; simp; omega))
      (try simp only [Act.put, List.setIfInBounds_toArray, List.set_cons_zero, List.set_cons_succ])
      refine pl_eff rfl (fun Kp hKp => ?_)
      ((with_reducible apply st_alloc); assumption; intro b15 w15 hs15; simp only [Value.cells] at hs15)
      refine hKp.out _ _ ?_
      clear hKp Kp
      (try simp only [Act.put, List.setIfInBounds_toArray, List.set_cons_zero, List.set_cons_succ])
      refine pl_eff rfl (fun Kp hKp => ?_)
      (first | ((with_reducible apply st_storeAll); assumption; rfl; (go_simp; rfl); (repeat (first | with_reducible exact Out.here _ | apply Out.there)); rfl; (focus (first | (simp [Value.oneCell']; done) | (simp [Value.cells, Value.oneCell']; done))); rfl; intro wr10_6 hsr10_6; simp only [Value.cells] at hsr10_6) | ((with_reducible apply st_store); assumption; rfl; (go_simp; rfl); (repeat (first | with_reducible exact Out.here _ | apply Out.there)); rfl; (first | (focus (simp [Value.oneCell']; done)) | (simp [Value.cells, Value.oneCell'])); (first | (focus (simp; done)) | (simp [Value.cells])); intro wr10_6 hsr10_6; simp only [upd, Value.cells] at hsr10_6))
      refine hKp.out _ _ ?_
      clear hKp Kp
      dsimp only [Act.put]
      refine pl_take (v := ?_) rfl ?_ ?_
      rotate_left
      · (first | (go_simp; done) | (go_simp; with_reducible rfl) | (go_simp; rfl) | (go_simp; omega) | (go_simp; assumption) | (go_simp; simp; omega))
      (try simp only [Act.put, List.setIfInBounds_toArray, List.set_cons_zero, List.set_cons_succ])
      refine pl_done ?_
      refine hK12.out _ _ ?_
      clear hK12 K12
      refine wk_seq (fun K13 hK13 => ?_)
      refine wk_reg ?_
      refine pl_take (v := ?_) rfl ?_ ?_
      rotate_left
      · (first | (go_simp; done) | (go_simp; with_reducible rfl) | (go_simp; rfl) | (go_simp; omega) | (go_simp; assumption) | (go_simp; simp; omega))
      (try simp only [Act.put, List.setIfInBounds_toArray, List.set_cons_zero, List.set_cons_succ])
      refine pl_eff rfl (fun Kp hKp => ?_)
      go_simp
      ((refine (errnum_spec _).mono ?_); rintro e87 w87 ⟨rfl, rfl⟩)
      (try go_wp2_with fail)
      refine hKp.out _ _ ?_
      clear hKp Kp
      (try simp only [Act.put, List.setIfInBounds_toArray, List.set_cons_zero, List.set_cons_succ])
      refine pl_take (v := .bool false) rfl ?_ ?_
      · (first | (go_simp; done) | (go_simp; with_reducible rfl) | (go_simp; rfl) | (go_simp; omega) | (go_simp; assumption) | (go_simp; simp; omega))
      (try simp only [Act.put, List.setIfInBounds_toArray, List.set_cons_zero, List.set_cons_succ])
      refine pl_take (v := .bool false) rfl ?_ ?_
      · (first | (go_simp; done) | (go_simp; with_reducible rfl) | (go_simp; rfl) | (go_simp; omega) | (go_simp; assumption) | (go_simp; simp; omega))
      (try simp only [Act.put, List.setIfInBounds_toArray, List.set_cons_zero, List.set_cons_succ])
      refine pl_take (v := ?_) (by kernel_rfl) ?_ ?_
      rotate_left
      · (first | ((with_reducible apply yl_loadAgg); assumption; rfl; (repeat (first | with_reducible exact Out.here _ | apply Out.there)); (simp); rfl; rfl) | ((with_reducible apply yl_loadAggR); assumption; rfl; (repeat (first | with_reducible assumption | with_reducible exact Rd.own | with_reducible exact Rd.nil | with_reducible apply Rd.cons)); rfl))
      (try simp only [Act.put, List.setIfInBounds_toArray, List.set_cons_zero, List.set_cons_succ])
      refine pl_take (v := ?_) (by kernel_rfl) ?_ ?_
      rotate_left
      · (first | ((with_reducible apply yl_loadAgg); assumption; rfl; (repeat (first | with_reducible exact Out.here _ | apply Out.there)); (simp); rfl; rfl) | ((with_reducible apply yl_loadAggR); assumption; rfl; (repeat (first | with_reducible assumption | with_reducible exact Rd.own | with_reducible exact Rd.nil | with_reducible apply Rd.cons)); rfl))
      (try simp only [Act.put, List.setIfInBounds_toArray, List.set_cons_zero, List.set_cons_succ])
      refine pl_eff (by kernel_rfl) (fun Kp hKp => ?_)
      go_simp
      ((refine (same_refl (by assumption) (by (repeat (first | with_reducible assumption | with_reducible exact Rd.own | with_reducible exact Rd.nil | with_reducible apply Rd.cons))) (by (repeat (first | with_reducible assumption | with_reducible exact Rd.own | with_reducible exact Rd.nil | with_reducible apply Rd.cons)))).mono ?_); rintro e92 w92 ⟨rfl, hs92⟩)
      (try go_wp2_with fail)
      refine hKp.out _ _ ?_
      clear hKp Kp
      (try simp only [Act.put, List.setIfInBounds_toArray, List.set_cons_zero, List.set_cons_succ])
      refine pl_take (v := .bool false) (by kernel_rfl) ?_ ?_
      · (first | (go_simp; done) | (go_simp; with_reducible rfl) | (go_simp; rfl) | (go_simp; omega) | (go_simp; assumption) | (go_simp; simp; omega))
      (try simp only [Act.put, List.setIfInBounds_toArray, List.set_cons_zero, List.set_cons_succ])
      refine pl_take (v := .bool false) rfl ?_ ?_
      · (first | (go_simp; done) | (go_simp; with_reducible rfl) | (go_simp; rfl) | (go_simp; omega) | (go_simp; assumption) | (go_simp; simp; omega))
      (try simp only [Act.put, List.setIfInBounds_toArray, List.set_cons_zero, List.set_cons_succ])
      refine pl_done ?_
      refine hK13.out _ _ ?_
      clear hK13 K13
      refine wp_cond_false rfl ?_
      refine wp_skip ?_
      refine hK10.out _ _ ?_
      clear hK10 K10
      refine wk_seq (fun K15 hK15 => ?_)
      refine wk_seq (fun K16 hK16 => ?_)
      refine wk_reg ?_
      refine pl_take (v := ?_) rfl ?_ ?_
      rotate_left
      · (first | (go_simp; done) | (go_simp; with_reducible rfl) | (go_simp; rfl) | (go_simp; omega) | (go_simp; assumption) | (go_simp; simp; omega))
      (try simp only [Act.put, List.setIfInBounds_toArray, List.set_cons_zero, List.set_cons_succ])
      refine pl_eff rfl (fun Kp hKp => ?_)
      go_simp
      ((refine (errnum_spec _).mono ?_); rintro e96 w96 ⟨rfl, rfl⟩)
      (try go_wp2_with fail)
      refine hKp.out _ _ ?_
      clear hKp Kp
      (try simp only [Act.put, List.setIfInBounds_toArray, List.set_cons_zero, List.set_cons_succ])
      refine pl_take (v := .bool true) rfl ?_ ?_
      · (first | (go_simp; done) | (go_simp; with_reducible rfl) | (go_simp; rfl) | (go_simp; omega) | (go_simp; assumption) | (go_simp; simp; omega))
      (try simp only [Act.put, List.setIfInBounds_toArray, List.set_cons_zero, List.set_cons_succ])
      refine pl_done ?_
      refine hK16.out _ _ ?_
      clear hK16 K16
      refine wp_cond_true rfl ?_
      refine wk_seq (fun K17 hK17 => ?_)
      refine wk_reg ?_
      refine pl_take (v := ?_) rfl ?_ ?_
      rotate_left
      · (first | ((with_reducible apply yl_loadAgg); assumption; rfl; (repeat (first | with_reducible exact Out.here _ | apply Out.there)); (simp); rfl; rfl) | ((with_reducible apply yl_loadAggR); assumption; rfl; (repeat (first | with_reducible assumption | with_reducible exact Rd.own | with_reducible exact Rd.nil | with_reducible apply Rd.cons)); rfl))
      (try simp only [Act.put, List.setIfInBounds_toArray, List.set_cons_zero, List.set_cons_succ])
      refine pl_eff rfl (fun Kp hKp => ?_)
      go_simp
      (refine (hP4 _ _ _ _ (by assumption) (by (repeat (first | with_reducible assumption | with_reducible exact Rd.own | with_reducible exact Rd.nil | with_reducible apply Rd.cons)))).mono ?_; rintro e100 w100 ⟨A100, c100, rfl, hs100⟩)
      (try go_wp2_with fail)
      refine hKp.out _ _ ?_
      clear hKp Kp
      (try simp only [Act.put, List.setIfInBounds_toArray, List.set_cons_zero, List.set_cons_succ])
      refine pl_take (v := ?_) rfl ?_ ?_
      rotate_left
      · (first | (go_simp; done) | (go_simp; with_reducible rfl) | (go_simp; rfl) | (go_simp; omega) | (go_simp; assumption) | (go_simp; simp; omega))
      (try simp only [Act.put, List.setIfInBounds_toArray, List.set_cons_zero, List.set_cons_succ])
      refine pl_take (v := ?_) rfl ?_ ?_
      rotate_left
      · (first | (go_simp; done) | (go_simp; with_reducible rfl) | (go_simp; rfl) | (go_simp; omega) | (go_simp; assumption) | (go_simp; simp; omega))
      (try simp only [Act.put, List.setIfInBounds_toArray, List.set_cons_zero, List.set_cons_succ])
      refine pl_take (v := ?_) rfl ?_ ?_
      rotate_left
      · (first | (go_simp; done) | (go_simp; with_reducible rfl) | (go_simp; rfl) | (go_simp; omega) | (go_simp; assumption) | (go_simp; simp; omega))
      (try simp only [Act.put, List.setIfInBounds_toArray, List.set_cons_zero, List.set_cons_succ])
      refine pl_take (v := ?_) rfl ?_ ?_
      rotate_left
      · (first | (go_simp; done) | (go_simp; with_reducible rfl) | (go_simp; rfl) | (go_simp; omega) | (go_simp; assumption) | (go_simp; simp; omega))
      (try simp only [Act.put, List.setIfInBounds_toArray, List.set_cons_zero, List.set_cons_succ])
      refine pl_take (v := ?_) rfl ?_ ?_
      rotate_left
      · (first | (go_simp; done) | (go_simp; with_reducible rfl) | (go_simp; rfl) | (go_simp; omega) | (go_simp; assumption) | (go_simp; simp; omega))
      (try simp only [Act.put, List.setIfInBounds_toArray, List.set_cons_zero, List.set_cons_succ])
      refine pl_done ?_
      refine hK17.out _ _ ?_
      clear hK17 K17
      refine wk_seq (fun K18 hK18 => ?_)
      refine wk_reg ?_
      refine pl_take (v := ?_) rfl ?_ ?_
      rotate_left
      · (first | (go_simp; done) | (go_simp; with_reducible rfl) | (go_simp; rfl) | (go_simp; omega) | (go_simp; assumption) | (go_simp; simp; omega))
      (try simp only [Act.put, List.setIfInBounds_toArray, List.set_cons_zero, List.set_cons_succ])
      refine pl_eff rfl (fun Kp hKp => ?_)
      go_simp
      ((refine (errnum_spec _).mono ?_); rintro e104 w104 ⟨rfl, rfl⟩)
      (try go_wp2_with fail)
      refine hKp.out _ _ ?_
      clear hKp Kp
      (try simp only [Act.put, List.setIfInBounds_toArray, List.set_cons_zero, List.set_cons_succ])
      refine pl_take (v := .bool false) rfl ?_ ?_
      · (first | (go_simp; done) | (go_simp; with_reducible rfl) | (go_simp; rfl) | (go_simp; omega) | (go_simp; assumption) | (go_simp; simp; omega))
      (try simp only [Act.put, List.setIfInBounds_toArray, List.set_cons_zero, List.set_cons_succ])
      refine pl_take (v := .bool false) rfl ?_ ?_
      · (first | (go_simp; done) | (go_simp; with_reducible rfl) | (go_simp; rfl) | (go_simp; omega) | (go_simp; assumption) | (go_simp; simp; omega))
      (try simp only [Act.put, List.setIfInBounds_toArray, List.set_cons_zero, List.set_cons_succ])
      refine pl_take (v := ?_) (by kernel_rfl) ?_ ?_
      rotate_left
      · (first | (go_simp; done) | (go_simp; with_reducible rfl) | (go_simp; rfl) | (go_simp; omega) | (go_simp; assumption) | (go_simp; simp; omega))
      (try simp only [Act.put, List.setIfInBounds_toArray, List.set_cons_zero, List.set_cons_succ])
      refine pl_take (v := ?_) (by kernel_rfl) ?_ ?_
      rotate_left
      · (first | ((with_reducible apply yl_b2s); assumption; rfl; (repeat (first | with_reducible assumption | with_reducible exact Rd.own | with_reducible exact Rd.nil | with_reducible apply Rd.cons)); rfl) | (first | (go_simp; done) | (go_simp; with_reducible rfl) | (go_simp; rfl) | (go_simp; omega) | (go_simp; assumption) | (go_simp; simp; omega)))
      (try simp only [Act.put, List.setIfInBounds_toArray, List.set_cons_zero, List.set_cons_succ])
      refine pl_take (v := ?_) (by kernel_rfl) ?_ ?_
      rotate_left
      · (first | (go_simp; done) | (go_simp; with_reducible rfl) | (go_simp; rfl) | (go_simp; omega) | (go_simp; assumption) | (go_simp; simp; omega))
      (try simp only [Act.put, List.setIfInBounds_toArray, List.set_cons_zero, List.set_cons_succ])
      refine pl_take (v := ?_) (by kernel_rfl) ?_ ?_
      rotate_left
      · (first | ((with_reducible apply yl_b2s); assumption; rfl; (repeat (first | with_reducible assumption | with_reducible exact Rd.own | with_reducible exact Rd.nil | with_reducible apply Rd.cons)); rfl) | (first | (go_simp; done) | (go_simp; with_reducible rfl) | (go_simp; rfl) | (go_simp; omega) | (go_simp; assumption) | (go_simp; simp; omega)))
      (try simp only [Act.put, List.setIfInBounds_toArray, List.set_cons_zero, List.set_cons_succ])
      refine pl_take (v := .bool false) (by kernel_rfl) ?_ ?_
      · (first | (go_simp; done) | (go_simp; with_reducible rfl) | (go_simp; rfl) | (go_simp; omega) | (go_simp; assumption) | (go_simp; simp; omega))
      (try simp only [Act.put, List.setIfInBounds_toArray, List.set_cons_zero, List.set_cons_succ])
      refine pl_take (v := .bool false) rfl ?_ ?_
      · (first | (go_simp; done) | (go_simp; with_reducible rfl) | (go_simp; rfl) | (go_simp; omega) | (go_simp; assumption) | (go_simp; simp; omega))
      (try simp only [Act.put, List.setIfInBounds_toArray, List.set_cons_zero, List.set_cons_succ])
      refine pl_done ?_
      refine hK18.out _ _ ?_
      clear hK18 K18
      refine wp_cond_false rfl ?_
      refine wp_skip ?_
      refine hK15.out _ _ ?_
      clear hK15 K15
      refine wk_seq (fun K20 hK20 => ?_)
      refine wk_reg ?_
      refine pl_eff rfl (fun Kp hKp => ?_)
      go_simp
      ((refine (knows_spec (by assumption)).mono ?_); rintro e113 w113 ⟨rfl, hs113⟩)
      (try go_wp2_with fail)
      refine hKp.out _ _ ?_
      clear hKp Kp
      (try simp only [Act.put, List.setIfInBounds_toArray, List.set_cons_zero, List.set_cons_succ])
      refine pl_take (v := ?_) rfl ?_ ?_
      rotate_left
      · (first | (go_simp; done) | (go_simp; with_reducible rfl) | (go_simp; rfl) | (go_simp; omega) | (go_simp; assumption) | (go_simp; simp; omega))
      (try simp only [Act.put, List.setIfInBounds_toArray, List.set_cons_zero, List.set_cons_succ])
      refine pl_done ?_
      refine hK20.out _ _ ?_
      clear hK20 K20
      refine wp_ret ?_
      go_ret
      exact ⟨rfl, hs113.pick (by (repeat (first | exact Pick.nil _ | exact Pick.tail _ | exact Out.here _ | apply Out.there | apply Pick.cons | apply Pick.drop)))⟩
    · clear hP3
      go_enter Try.func9, Try.ntmps9
      refine wk_seq (fun K0 hK0 => ?_)
      refine wk_reg ?_
      refine pl_eff rfl (fun Kp hKp => ?_)
      ((with_reducible apply st_box); assumption; (go_simp; rfl); intro b2 w2 hs2; simp only [Value.cells] at hs2)
      refine hKp.out _ _ ?_
      clear hKp Kp
      (try simp only [Act.put, List.setIfInBounds_toArray, List.set_cons_zero, List.set_cons_succ])
      refine pl_take (v := .bool false) rfl ?_ ?_
      · (first | (go_simp; done) | (go_simp; with_reducible rfl) | (go_simp; rfl) | (go_simp; omega) | (go_simp; assumption) | (go_simp; simp; omega))
      (try simp only [Act.put, List.setIfInBounds_toArray, List.set_cons_zero, List.set_cons_succ])
      refine pl_done ?_
      refine hK0.out _ _ ?_
      clear hK0 K0
      refine wk_seq (fun K1 hK1 => ?_)
      refine wk_reg ?_
      refine pl_take (v := ?_) rfl ?_ ?_
      rotate_left
      · (first | (go_simp; done) | (go_simp; with_reducible rfl) | (go_simp; rfl) | (go_simp; omega) | (go_simp; assumption) | (go_simp; simp; omega))
      (try simp only [Act.put, List.setIfInBounds_toArray, List.set_cons_zero, List.set_cons_succ])
      refine pl_eff rfl (fun Kp hKp => ?_)
      go_simp
      ((refine (lent_spec bl (by omega) (by assumption) (by (repeat (first | with_reducible assumption | with_reducible exact Rd.own | with_reducible exact Rd.nil | with_reducible apply Rd.cons)))).mono ?_); rintro e20 w20 ⟨g20, c20, rfl, hs20⟩)
      (try go_wp2_with fail)
      refine hKp.out _ _ ?_
      clear hKp Kp
      (try simp only [Act.put, List.setIfInBounds_toArray, List.set_cons_zero, List.set_cons_succ])
      refine pl_take (v := ?_) rfl ?_ ?_
      rotate_left
      · (first | (go_simp; done) | (go_simp; with_reducible rfl) | (go_simp; rfl) | (go_simp; omega) | (go_simp; assumption) | (go_simp; simp; omega))
      (try simp only [Act.put, List.setIfInBounds_toArray, List.set_cons_zero, List.set_cons_succ])
      refine pl_done ?_
      refine hK1.out _ _ ?_
      clear hK1 K1
      refine wk_seq (fun K2 hK2 => ?_)
      refine wk_reg ?_
      refine pl_take (v := ?_) rfl ?_ ?_
      rotate_left
      · (first | ((with_reducible apply yl_loadAgg); assumption; rfl; (repeat (first | with_reducible exact Out.here _ | apply Out.there)); (simp); rfl; rfl) | ((with_reducible apply yl_loadAggR); assumption; rfl; (repeat (first | with_reducible assumption | with_reducible exact Rd.own | with_reducible exact Rd.nil | with_reducible apply Rd.cons)); rfl))
      (try simp only [Act.put, List.setIfInBounds_toArray, List.set_cons_zero, List.set_cons_succ])
      refine pl_eff rfl (fun Kp hKp => ?_)
      go_simp
      ((refine (own_spec (by omega) (by assumption) (by (repeat (first | with_reducible assumption | with_reducible exact Rd.own | with_reducible exact Rd.nil | with_reducible apply Rd.cons)))).mono ?_); rintro e22 w22 ⟨A22, c22, rfl, hs22⟩)
      (try go_wp2_with fail)
      refine hKp.out _ _ ?_
      clear hKp Kp
      (try simp only [Act.put, List.setIfInBounds_toArray, List.set_cons_zero, List.set_cons_succ])
      refine pl_eff rfl (fun Kp hKp => ?_)
      ((with_reducible apply st_alloc); assumption; intro b6 w6 hs6; simp only [Value.cells] at hs6)
      refine hKp.out _ _ ?_
      clear hKp Kp
      (try simp only [Act.put, List.setIfInBounds_toArray, List.set_cons_zero, List.set_cons_succ])
      refine pl_eff rfl (fun Kp hKp => ?_)
      (first | ((with_reducible apply st_storeAll); assumption; rfl; (go_simp; rfl); (repeat (first | with_reducible exact Out.here _ | apply Out.there)); rfl; (focus (first | (simp [Value.oneCell']; done) | (simp [Value.cells, Value.oneCell']; done))); rfl; intro wr2_3 hsr2_3; simp only [Value.cells] at hsr2_3) | ((with_reducible apply st_store); assumption; rfl; (go_simp; rfl); (repeat (first | with_reducible exact Out.here _ | apply Out.there)); rfl; (first | (focus (simp [Value.oneCell']; done)) | (simp [Value.cells, Value.oneCell'])); (first | (focus (simp; done)) | (simp [Value.cells])); intro wr2_3 hsr2_3; simp only [upd, Value.cells] at hsr2_3))
      refine hKp.out _ _ ?_
      clear hKp Kp
      dsimp only [Act.put]
      refine pl_done ?_
      refine hK2.out _ _ ?_
      clear hK2 K2
      refine wk_seq (fun K3 hK3 => ?_)
      refine wk_reg ?_
      refine pl_take (v := ?_) rfl ?_ ?_
      rotate_left
      · (first | ((with_reducible apply yl_loadAgg); assumption; rfl; (repeat (first | with_reducible exact Out.here _ | apply Out.there)); (simp); rfl; rfl) | ((with_reducible apply yl_loadAggR); assumption; rfl; (repeat (first | with_reducible assumption | with_reducible exact Rd.own | with_reducible exact Rd.nil | with_reducible apply Rd.cons)); rfl))
      (try simp only [Act.put, List.setIfInBounds_toArray, List.set_cons_zero, List.set_cons_succ])
      refine pl_eff rfl (fun Kp hKp => ?_)
      go_simp
      ((refine (hP (by assumption) (by (repeat (first | with_reducible assumption | with_reducible exact Rd.own | with_reducible exact Rd.nil | with_reducible apply Rd.cons)))).mono ?_); rintro e25 w25 ⟨A25, c25, rfl, hs25⟩)
      (try go_wp2_with fail)
      refine hKp.out _ _ ?_
      clear hKp Kp
      (try simp only [Act.put, List.setIfInBounds_toArray, List.set_cons_zero, List.set_cons_succ])
      refine pl_take (v := ?_) rfl ?_ ?_
      rotate_left
      · (first | (go_simp; done) | (go_simp; with_reducible rfl) | (go_simp; rfl) | (go_simp; omega) | (go_simp; assumption) | (go_simp; simp; omega))
      (try simp only [Act.put, List.setIfInBounds_toArray, List.set_cons_zero, List.set_cons_succ])
      refine pl_take (v := ?_) rfl ?_ ?_
      rotate_left
      · (first | (go_simp; done) | (go_simp; with_reducible rfl) | (go_simp; rfl) | (go_simp; omega) | (go_simp; assumption) | (go_simp; simp; omega))
      (try simp only [Act.put, List.setIfInBounds_toArray, List.set_cons_zero, List.set_cons_succ])
      refine pl_take (v := ?_) rfl ?_ ?_
      rotate_left
      · (first | (go_simp; done) | (go_simp; with_reducible rfl) | (go_simp; rfl) | (go_simp; omega) | (go_simp; assumption) | (go_simp; simp; omega))
      (try simp only [Act.put, List.setIfInBounds_toArray, List.set_cons_zero, List.set_cons_succ])
      refine pl_take (v := ?_) rfl ?_ ?_
      rotate_left
      · (first | (go_simp; done) | (go_simp; with_reducible rfl) | (go_simp; rfl) | (go_simp; omega) | (go_simp; assumption) | (go_simp; simp; omega))
      (try simp only [Act.put, List.setIfInBounds_toArray, List.set_cons_zero, List.set_cons_succ])
      refine pl_take (v := ?_) rfl ?_ ?_
      rotate_left
      · (first | (go_simp; done) | (go_simp; with_reducible rfl) | (go_simp; rfl) | (go_simp; omega) | (go_simp; assumption) | (go_simp; simp; omega))
      (try simp only [Act.put, List.setIfInBounds_toArray, List.set_cons_zero, List.set_cons_succ])
      refine pl_done ?_
      refine hK3.out _ _ ?_
      clear hK3 K3
      refine wk_seq (fun K4 hK4 => ?_)
      refine wk_reg ?_
      refine pl_take (v := ?_) rfl ?_ ?_
      rotate_left
      · (first | ((with_reducible apply yl_loadAgg); assumption; rfl; (repeat (first | with_reducible exact Out.here _ | apply Out.there)); (simp); rfl; rfl) | ((with_reducible apply yl_loadAggR); assumption; rfl; (repeat (first | with_reducible assumption | with_reducible exact Rd.own | with_reducible exact Rd.nil | with_reducible apply Rd.cons)); rfl))
      (try simp only [Act.put, List.setIfInBounds_toArray, List.set_cons_zero, List.set_cons_succ])
      refine pl_eff rfl (fun Kp hKp => ?_)
      go_simp
      ((refine (hP2 (by assumption) (by (repeat (first | with_reducible assumption | with_reducible exact Rd.own | with_reducible exact Rd.nil | with_reducible apply Rd.cons)))).mono ?_); rintro e30 w30 ⟨A30, c30, rfl, hs30⟩)
      (try go_wp2_with fail)
      refine hKp.out _ _ ?_
      clear hKp Kp
      (try simp only [Act.put, List.setIfInBounds_toArray, List.set_cons_zero, List.set_cons_succ])
      refine pl_take (v := ?_) rfl ?_ ?_
      rotate_left
      · (first | (go_simp; done) | (go_simp; with_reducible rfl) | (go_simp; rfl) | (go_simp; omega) | (go_simp; assumption) | (go_simp; simp; omega))
      (try simp only [Act.put, List.setIfInBounds_toArray, List.set_cons_zero, List.set_cons_succ])
      refine pl_take (v := ?_) rfl ?_ ?_
      rotate_left
      · (first | (go_simp; done) | (go_simp; with_reducible rfl) | (go_simp; rfl) | (go_simp; omega) | (go_simp; assumption) | (go_simp; simp; omega))
      (try simp only [Act.put, List.setIfInBounds_toArray, List.set_cons_zero, List.set_cons_succ])
      refine pl_take (v := ?_) rfl ?_ ?_
      rotate_left
      · (first | (go_simp; done) | (go_simp; with_reducible rfl) | (go_simp; rfl) | (go_simp; omega) | (go_simp; assumption) | (go_simp; simp; omega))
      (try simp only [Act.put, List.setIfInBounds_toArray, List.set_cons_zero, List.set_cons_succ])
      refine pl_take (v := ?_) rfl ?_ ?_
      rotate_left
      · (first | (go_simp; done) | (go_simp; with_reducible rfl) | (go_simp; rfl) | (go_simp; omega) | (go_simp; assumption) | (go_simp; simp; omega))
      (try simp only [Act.put, List.setIfInBounds_toArray, List.set_cons_zero, List.set_cons_succ])
      refine pl_take (v := ?_) rfl ?_ ?_
      rotate_left
      · (first | (go_simp; done) | (go_simp; with_reducible rfl) | (go_simp; rfl) | (go_simp; omega) | (go_simp; assumption) | (go_simp; simp; omega))
      (try simp only [Act.put, List.setIfInBounds_toArray, List.set_cons_zero, List.set_cons_succ])
      refine pl_done ?_
      refine hK4.out _ _ ?_
      clear hK4 K4
      refine wk_seq (fun K5 hK5 => ?_)
      refine wk_reg ?_
      refine pl_take (v := ?_) rfl ?_ ?_
      rotate_left
      · (first | (go_simp; done) | (go_simp; with_reducible rfl) | (go_simp; rfl) | (go_simp; omega) | (go_simp; assumption) | (go_simp; simp; omega))
      (try simp only [Act.put, List.setIfInBounds_toArray, List.set_cons_zero, List.set_cons_succ])
      refine pl_eff rfl (fun Kp hKp => ?_)
      go_simp
      ((refine (hG (by assumption) (by (repeat (first | with_reducible exact Rd.lent bl | with_reducible assumption | with_reducible apply Rd.cons)))).mono ?_); rintro e35 w35 ⟨A35, c35, rfl, hs35⟩)
      (try go_wp2_with fail)
      refine hKp.out _ _ ?_
      clear hKp Kp
      (try simp only [Act.put, List.setIfInBounds_toArray, List.set_cons_zero, List.set_cons_succ])
      refine pl_take (v := ?_) rfl ?_ ?_
      rotate_left
      · (first | (go_simp; done) | (go_simp; with_reducible rfl) | (go_simp; rfl) | (go_simp; omega) | (go_simp; assumption) | (go_simp; simp; omega))
      (try simp only [Act.put, List.setIfInBounds_toArray, List.set_cons_zero, List.set_cons_succ])
      refine pl_take (v := ?_) rfl ?_ ?_
      rotate_left
      · (first | (go_simp; done) | (go_simp; with_reducible rfl) | (go_simp; rfl) | (go_simp; omega) | (go_simp; assumption) | (go_simp; simp; omega))
      (try simp only [Act.put, List.setIfInBounds_toArray, List.set_cons_zero, List.set_cons_succ])
      refine pl_take (v := ?_) rfl ?_ ?_
      rotate_left
      · (first | (go_simp; done) | (go_simp; with_reducible rfl) | (go_simp; rfl) | (go_simp; omega) | (go_simp; assumption) | (go_simp; simp; omega))
      (try simp only [Act.put, List.setIfInBounds_toArray, List.set_cons_zero, List.set_cons_succ])
      refine pl_eff rfl (fun Kp hKp => ?_)
      ((with_reducible apply st_alloc); assumption; intro b11 w11 hs11; simp only [Value.cells] at hs11)
      refine hKp.out _ _ ?_
      clear hKp Kp
      (try simp only [Act.put, List.setIfInBounds_toArray, List.set_cons_zero, List.set_cons_succ])
      refine pl_eff rfl (fun Kp hKp => ?_)
      (first | ((with_reducible apply st_storeAll); assumption; rfl; (go_simp; rfl); (repeat (first | with_reducible exact Out.here _ | apply Out.there)); rfl; (focus (first | (simp [Value.oneCell']; done) | (simp [Value.cells, Value.oneCell']; done))); rfl; intro wr5_6 hsr5_6; simp only [Value.cells] at hsr5_6) | ((with_reducible apply st_store); assumption; rfl; (go_simp; rfl); (repeat (first | with_reducible exact Out.here _ | apply Out.there)); rfl; (first | (focus (simp [Value.oneCell']; done)) | (simp [Value.cells, Value.oneCell'])); (first | (focus (simp; done)) | (simp [Value.cells])); intro wr5_6 hsr5_6; simp only [upd, Value.cells] at hsr5_6))
      refine hKp.out _ _ ?_
      clear hKp Kp
      dsimp only [Act.put]
      refine pl_take (v := ?_) rfl ?_ ?_
      rotate_left
      · (first | (go_simp; done) | (go_simp; with_reducible rfl) | (go_simp; rfl) | (go_simp; omega) | (go_simp; assumption) | (go_simp; simp; omega))
      (try simp only [Act.put, List.setIfInBounds_toArray, List.set_cons_zero, List.set_cons_succ])
      refine pl_done ?_
      refine hK5.out _ _ ?_
      clear hK5 K5
      refine wk_seq (fun K6 hK6 => ?_)
      refine wk_reg ?_
      refine pl_take (v := ?_) rfl ?_ ?_
      rotate_left
      · (first | (go_simp; done) | (go_simp; with_reducible rfl) | (go_simp; rfl) | (go_simp; omega) | (go_simp; assumption) | (go_simp; simp; omega))
      (try simp only [Act.put, List.setIfInBounds_toArray, List.set_cons_zero, List.set_cons_succ])
      refine pl_eff rfl (fun Kp hKp => ?_)
      go_simp
      ((refine (hG2 (by assumption) (by (repeat (first | with_reducible assumption | with_reducible exact Rd.own | with_reducible exact Rd.nil | with_reducible apply Rd.cons)))).mono ?_); rintro e40 w40 ⟨A40, c40, rfl, hs40⟩)
      (try go_wp2_with fail)
      refine hKp.out _ _ ?_
      clear hKp Kp
      (try simp only [Act.put, List.setIfInBounds_toArray, List.set_cons_zero, List.set_cons_succ])
      refine pl_take (v := ?_) rfl ?_ ?_
      rotate_left
      · (first | (go_simp; done) | (go_simp; with_reducible rfl) | (go_simp; rfl) | (go_simp; omega) | (go_simp; assumption) | (go_simp; simp; omega))
      (try simp only [Act.put, List.setIfInBounds_toArray, List.set_cons_zero, List.set_cons_succ])
      refine pl_take (v := ?_) rfl ?_ ?_
      rotate_left
      · (first | (go_simp; done) | (go_simp; with_reducible rfl) | (go_simp; rfl) | (go_simp; omega) | (go_simp; assumption) | (go_simp; simp; omega))
      (try simp only [Act.put, List.setIfInBounds_toArray, List.set_cons_zero, List.set_cons_succ])
      refine pl_take (v := ?_) rfl ?_ ?_
      rotate_left
      · (first | (go_simp; done) | (go_simp; with_reducible rfl) | (go_simp; rfl) | (go_simp; omega) | (go_simp; assumption) | (go_simp; simp; omega))
      (try simp only [Act.put, List.setIfInBounds_toArray, List.set_cons_zero, List.set_cons_succ])
      refine pl_eff rfl (fun Kp hKp => ?_)
      ((with_reducible apply st_alloc); assumption; intro b13 w13 hs13; simp only [Value.cells] at hs13)
      refine hKp.out _ _ ?_
      clear hKp Kp
      (try simp only [Act.put, List.setIfInBounds_toArray, List.set_cons_zero, List.set_cons_succ])
      refine pl_eff rfl (fun Kp hKp => ?_)
      (first | ((with_reducible apply st_storeAll); assumption; rfl; (go_simp; rfl); (repeat (first | with_reducible exact Out.here _ | apply Out.there)); rfl; (focus (first | (simp [Value.oneCell']; done) | (simp [Value.cells, Value.oneCell']; done))); rfl; intro wr6_6 hsr6_6; simp only [Value.cells] at hsr6_6) | ((with_reducible apply st_store); assumption; rfl; (go_simp; rfl); (repeat (first | with_reducible exact Out.here _ | apply Out.there)); rfl; (first | (focus (simp [Value.oneCell']; done)) | (simp [Value.cells, Value.oneCell'])); (first | (focus (simp; done)) | (simp [Value.cells])); intro wr6_6 hsr6_6; simp only [upd, Value.cells] at hsr6_6))
      refine hKp.out _ _ ?_
      clear hKp Kp
      dsimp only [Act.put]
      refine pl_take (v := ?_) rfl ?_ ?_
      rotate_left
      · (first | (go_simp; done) | (go_simp; with_reducible rfl) | (go_simp; rfl) | (go_simp; omega) | (go_simp; assumption) | (go_simp; simp; omega))
      (try simp only [Act.put, List.setIfInBounds_toArray, List.set_cons_zero, List.set_cons_succ])
      refine pl_done ?_
      refine hK6.out _ _ ?_
      clear hK6 K6
      refine wk_seq (fun K7 hK7 => ?_)
      refine wk_seq (fun K8 hK8 => ?_)
      refine wk_reg ?_
      refine pl_take (v := ?_) rfl ?_ ?_
      rotate_left
      · (first | (go_simp; done) | (go_simp; with_reducible rfl) | (go_simp; rfl) | (go_simp; omega) | (go_simp; assumption) | (go_simp; simp; omega))
      (try simp only [Act.put, List.setIfInBounds_toArray, List.set_cons_zero, List.set_cons_succ])
      refine pl_take (v := ?_) rfl ?_ ?_
      rotate_left
      · (first | ((with_reducible apply yl_b2s); assumption; rfl; (repeat (first | with_reducible assumption | with_reducible exact Rd.own | with_reducible exact Rd.nil | with_reducible apply Rd.cons)); rfl) | (first | (go_simp; done) | (go_simp; with_reducible rfl) | (go_simp; rfl) | (go_simp; omega) | (go_simp; assumption) | (go_simp; simp; omega)))
      (try simp only [Act.put, List.setIfInBounds_toArray, List.set_cons_zero, List.set_cons_succ])
      refine pl_take (v := ?_) rfl ?_ ?_
      rotate_left
      · (first | (go_simp; done) | (go_simp; with_reducible rfl) | (go_simp; rfl) | (go_simp; omega) | (go_simp; assumption) | (go_simp; simp; omega))
      (try simp only [Act.put, List.setIfInBounds_toArray, List.set_cons_zero, List.set_cons_succ])
      refine pl_take (v := ?_) rfl ?_ ?_
      rotate_left
      · (first | ((with_reducible apply yl_b2s); assumption; rfl; (repeat (first | with_reducible assumption | with_reducible exact Rd.own | with_reducible exact Rd.nil | with_reducible apply Rd.cons)); rfl) | (first | (go_simp; done) | (go_simp; with_reducible rfl) | (go_simp; rfl) | (go_simp; omega) | (go_simp; assumption) | (go_simp; simp; omega)))
      (try simp only [Act.put, List.setIfInBounds_toArray, List.set_cons_zero, List.set_cons_succ])
      refine pl_take (v := .bool false) rfl ?_ ?_
      · (first | (go_simp; done) | (go_simp; with_reducible rfl) | (go_simp; rfl) | (go_simp; omega) | (go_simp; assumption) | (go_simp; simp; omega))
      (try simp only [Act.put, List.setIfInBounds_toArray, List.set_cons_zero, List.set_cons_succ])
      refine pl_take (v := .bool false) rfl ?_ ?_
      · (first | (go_simp; done) | (go_simp; with_reducible rfl) | (go_simp; rfl) | (go_simp; omega) | (go_simp; assumption) | (go_simp; simp; omega))
      (try simp only [Act.put, List.setIfInBounds_toArray, List.set_cons_zero, List.set_cons_succ])
      refine pl_take (v := ?_) (by kernel_rfl) ?_ ?_
      rotate_left
      · (first | (go_simp; done) | (go_simp; with_reducible rfl) | (go_simp; rfl) | (go_simp; omega) | (go_simp; assumption) | (go_simp; simp; omega))
      (try simp only [Act.put, List.setIfInBounds_toArray, List.set_cons_zero, List.set_cons_succ])
      refine pl_eff (by kernel_rfl) (fun Kp hKp => ?_)
      go_simp
      ((refine (errnum_spec _).mono ?_); rintro e50 w50 ⟨rfl, rfl⟩)
      (try go_wp2_with fail)
      refine hKp.out _ _ ?_
      clear hKp Kp
      (try simp only [Act.put, List.setIfInBounds_toArray, List.set_cons_zero, List.set_cons_succ])
      refine pl_take (v := ?_) (by kernel_rfl) ?_ ?_
      rotate_left
      · (first | (go_simp; done) | (go_simp; with_reducible rfl) | (go_simp; rfl) | (go_simp; omega) | (go_simp; assumption) | (go_simp; simp; omega))
      (try simp only [Act.put, List.setIfInBounds_toArray, List.set_cons_zero, List.set_cons_succ])
      refine pl_take (v := .bool false) (by kernel_rfl) ?_ ?_
      · (first | (go_simp; done) | (go_simp; with_reducible rfl) | (go_simp; rfl) | (go_simp; omega) | (go_simp; assumption) | (go_simp; simp; omega))
      (try simp only [Act.put, List.setIfInBounds_toArray, List.set_cons_zero, List.set_cons_succ])
      refine pl_take (v := .bool false) rfl ?_ ?_
      · (first | (go_simp; done) | (go_simp; with_reducible rfl) | (go_simp; rfl) | (go_simp; omega) | (go_simp; assumption) | (go_simp; simp; omega))
      (try simp only [Act.put, List.setIfInBounds_toArray, List.set_cons_zero, List.set_cons_succ])
      refine pl_take (v := .bool false) rfl ?_ ?_
      · (first | (go_simp; done) | (go_simp; with_reducible rfl) | (go_simp; rfl) | (go_simp; omega) | (go_simp; assumption) | (go_simp; simp; omega))
      (try simp only [Act.put, List.setIfInBounds_toArray, List.set_cons_zero, List.set_cons_succ])
      refine pl_take (v := ?_) (by kernel_rfl) ?_ ?_
      rotate_left
      · (first | ((with_reducible apply yl_loadAgg); assumption; rfl; (repeat (first | with_reducible exact Out.here _ | apply Out.there)); (simp); rfl; rfl) | ((with_reducible apply yl_loadAggR); assumption; rfl; (repeat (first | with_reducible assumption | with_reducible exact Rd.own | with_reducible exact Rd.nil | with_reducible apply Rd.cons)); rfl))
      (try simp only [Act.put, List.setIfInBounds_toArray, List.set_cons_zero, List.set_cons_succ])
      refine pl_take (v := ?_) (by kernel_rfl) ?_ ?_
      rotate_left
      · (first | ((with_reducible apply yl_loadAgg); assumption; rfl; (repeat (first | with_reducible exact Out.here _ | apply Out.there)); (simp); rfl; rfl) | ((with_reducible apply yl_loadAggR); assumption; rfl; (repeat (first | with_reducible assumption | with_reducible exact Rd.own | with_reducible exact Rd.nil | with_reducible apply Rd.cons)); rfl))
      (try simp only [Act.put, List.setIfInBounds_toArray, List.set_cons_zero, List.set_cons_succ])
      refine pl_eff (by kernel_rfl) (fun Kp hKp => ?_)
      go_simp
      ((refine (same_refl (by assumption) (by (repeat (first | with_reducible assumption | with_reducible exact Rd.own | with_reducible exact Rd.nil | with_reducible apply Rd.cons))) (by (repeat (first | with_reducible assumption | with_reducible exact Rd.own | with_reducible exact Rd.nil | with_reducible apply Rd.cons)))).mono ?_); rintro e57 w57 ⟨rfl, hs57⟩)
      (try go_wp2_with fail)
      refine hKp.out _ _ ?_
      clear hKp Kp
      (try simp only [Act.put, List.setIfInBounds_toArray, List.set_cons_zero, List.set_cons_succ])
      refine pl_take (v := .bool false) (by kernel_rfl) ?_ ?_
      · (first | (go_simp; done) | (go_simp; with_reducible rfl) | (go_simp; rfl) | (go_simp; omega) | (go_simp; assumption) | (go_simp; simp; omega))
      (try simp only [Act.put, List.setIfInBounds_toArray, List.set_cons_zero, List.set_cons_succ])
      refine pl_take (v := .bool false) rfl ?_ ?_
      · (first | (go_simp; done) | (go_simp; with_reducible rfl) | (go_simp; rfl) | (go_simp; omega) | (go_simp; assumption) | (go_simp; simp; omega))
      (try simp only [Act.put, List.setIfInBounds_toArray, List.set_cons_zero, List.set_cons_succ])
      refine pl_take (v := .bool false) rfl ?_ ?_
      · (first | (go_simp; done) | (go_simp; with_reducible rfl) | (go_simp; rfl) | (go_simp; omega) | (go_simp; assumption) | (go_simp; simp; omega))
      (try simp only [Act.put, List.setIfInBounds_toArray, List.set_cons_zero, List.set_cons_succ])
      refine pl_take (v := ?_) (by kernel_rfl) ?_ ?_
      rotate_left
      · (first | (go_simp; done) | (go_simp; with_reducible rfl) | (go_simp; rfl) | (go_simp; omega) | (go_simp; assumption) | (go_simp; simp; omega))
      (try simp only [Act.put, List.setIfInBounds_toArray, List.set_cons_zero, List.set_cons_succ])
      refine pl_eff (by kernel_rfl) (fun Kp hKp => ?_)
      go_simp
      ((refine (errnum_spec _).mono ?_); rintro e62 w62 ⟨rfl, rfl⟩)
      (try go_wp2_with fail)
      refine hKp.out _ _ ?_
      clear hKp Kp
      (try simp only [Act.put, List.setIfInBounds_toArray, List.set_cons_zero, List.set_cons_succ])
      refine pl_take (v := ?_) (by kernel_rfl) ?_ ?_
      rotate_left
      · (first | (go_simp; done) | (go_simp; with_reducible rfl) | (go_simp; rfl) | (go_simp; omega) | (go_simp; assumption) | (go_simp; simp; omega))
      (try simp only [Act.put, List.setIfInBounds_toArray, List.set_cons_zero, List.set_cons_succ])
      refine pl_take (v := .bool false) (by kernel_rfl) ?_ ?_
      · (first | (go_simp; done) | (go_simp; with_reducible rfl) | (go_simp; rfl) | (go_simp; omega) | (go_simp; assumption) | (go_simp; simp; omega))
      (try simp only [Act.put, List.setIfInBounds_toArray, List.set_cons_zero, List.set_cons_succ])
      refine pl_take (v := .bool false) rfl ?_ ?_
      · (first | (go_simp; done) | (go_simp; with_reducible rfl) | (go_simp; rfl) | (go_simp; omega) | (go_simp; assumption) | (go_simp; simp; omega))
      (try simp only [Act.put, List.setIfInBounds_toArray, List.set_cons_zero, List.set_cons_succ])
      refine pl_take (v := .bool false) rfl ?_ ?_
      · (first | (go_simp; done) | (go_simp; with_reducible rfl) | (go_simp; rfl) | (go_simp; omega) | (go_simp; assumption) | (go_simp; simp; omega))
      (try simp only [Act.put, List.setIfInBounds_toArray, List.set_cons_zero, List.set_cons_succ])
      refine pl_take (v := ?_) (by kernel_rfl) ?_ ?_
      rotate_left
      · (first | ((with_reducible apply yl_loadAgg); assumption; rfl; (repeat (first | with_reducible exact Out.here _ | apply Out.there)); (simp); rfl; rfl) | ((with_reducible apply yl_loadAggR); assumption; rfl; (repeat (first | with_reducible assumption | with_reducible exact Rd.own | with_reducible exact Rd.nil | with_reducible apply Rd.cons)); rfl))
      (try simp only [Act.put, List.setIfInBounds_toArray, List.set_cons_zero, List.set_cons_succ])
      refine pl_take (v := ?_) (by kernel_rfl) ?_ ?_
      rotate_left
      · (first | ((with_reducible apply yl_loadAgg); assumption; rfl; (repeat (first | with_reducible exact Out.here _ | apply Out.there)); (simp); rfl; rfl) | ((with_reducible apply yl_loadAggR); assumption; rfl; (repeat (first | with_reducible assumption | with_reducible exact Rd.own | with_reducible exact Rd.nil | with_reducible apply Rd.cons)); rfl))
      (try simp only [Act.put, List.setIfInBounds_toArray, List.set_cons_zero, List.set_cons_succ])
      refine pl_eff (by kernel_rfl) (fun Kp hKp => ?_)
      go_simp
      ((refine (same_refl (by assumption) (by (repeat (first | with_reducible assumption | with_reducible exact Rd.own | with_reducible exact Rd.nil | with_reducible apply Rd.cons))) (by (repeat (first | with_reducible assumption | with_reducible exact Rd.own | with_reducible exact Rd.nil | with_reducible apply Rd.cons)))).mono ?_); rintro e69 w69 ⟨rfl, hs69⟩)
      (try go_wp2_with fail)
      refine hKp.out _ _ ?_
      clear hKp Kp
      (try simp only [Act.put, List.setIfInBounds_toArray, List.set_cons_zero, List.set_cons_succ])
      refine pl_take (v := .bool false) (by kernel_rfl) ?_ ?_
      · (first | (go_simp; done) | (go_simp; with_reducible rfl) | (go_simp; rfl) | (go_simp; omega) | (go_simp; assumption) | (go_simp; simp; omega))
      (try simp only [Act.put, List.setIfInBounds_toArray, List.set_cons_zero, List.set_cons_succ])
      refine pl_take (v := .bool false) rfl ?_ ?_
      · (first | (go_simp; done) | (go_simp; with_reducible rfl) | (go_simp; rfl) | (go_simp; omega) | (go_simp; assumption) | (go_simp; simp; omega))
      (try simp only [Act.put, List.setIfInBounds_toArray, List.set_cons_zero, List.set_cons_succ])
      refine pl_take (v := .bool false) rfl ?_ ?_
      · (first | (go_simp; done) | (go_simp; with_reducible rfl) | (go_simp; rfl) | (go_simp; omega) | (go_simp; assumption) | (go_simp; simp; omega))
      (try simp only [Act.put, List.setIfInBounds_toArray, List.set_cons_zero, List.set_cons_succ])
      refine pl_take (v := ?_) (by kernel_rfl) ?_ ?_
      rotate_left
      · (first | (go_simp; done) | (go_simp; with_reducible rfl) | (go_simp; rfl) | (go_simp; omega) | (go_simp; assumption) | (go_simp; simp; omega))
      (try simp only [Act.put, List.setIfInBounds_toArray, List.set_cons_zero, List.set_cons_succ])
      refine pl_take (v := ?_) (by kernel_rfl) ?_ ?_
      rotate_left
      · (first | (go_simp; done) | (go_simp; with_reducible rfl) | (go_simp; rfl) | (go_simp; omega) | (go_simp; assumption) | (go_simp; simp; omega))
      (try simp only [Act.put, List.setIfInBounds_toArray, List.set_cons_zero, List.set_cons_succ])
      refine pl_eff (by kernel_rfl) (fun Kp hKp => ?_)
      go_simp
      ((refine (stays_spec bl (by omega) (by assumption) (by (repeat (first | with_reducible exact Out.here _ | apply Out.there))) (by (repeat (first | with_reducible assumption | with_reducible exact Rd.own | with_reducible exact Rd.nil | with_reducible apply Rd.cons)))).mono ?_); rintro e75 w75 ⟨rfl, hs75⟩)
      (try go_wp2_with fail)
      refine hKp.out _ _ ?_
      clear hKp Kp
      (try simp only [Act.put, List.setIfInBounds_toArray, List.set_cons_zero, List.set_cons_succ])
      refine pl_take (v := .bool false) (by kernel_rfl) ?_ ?_
      · (first | (go_simp; done) | (go_simp; with_reducible rfl) | (go_simp; rfl) | (go_simp; omega) | (go_simp; assumption) | (go_simp; simp; omega))
      (try simp only [Act.put, List.setIfInBounds_toArray, List.set_cons_zero, List.set_cons_succ])
      refine pl_take (v := .bool false) rfl ?_ ?_
      · (first | (go_simp; done) | (go_simp; with_reducible rfl) | (go_simp; rfl) | (go_simp; omega) | (go_simp; assumption) | (go_simp; simp; omega))
      (try simp only [Act.put, List.setIfInBounds_toArray, List.set_cons_zero, List.set_cons_succ])
      refine pl_done ?_
      refine hK8.out _ _ ?_
      clear hK8 K8
      refine wp_cond_false rfl ?_
      refine wp_skip ?_
      refine hK7.out _ _ ?_
      clear hK7 K7
      refine wk_seq (fun K10 hK10 => ?_)
      refine wk_seq (fun K11 hK11 => ?_)
      refine wk_reg ?_
      refine pl_take (v := ?_) rfl ?_ ?_
      rotate_left
      · (first | (go_simp; done) | (go_simp; with_reducible rfl) | (go_simp; rfl) | (go_simp; omega) | (go_simp; assumption) | (go_simp; simp; omega))
      (try simp only [Act.put, List.setIfInBounds_toArray, List.set_cons_zero, List.set_cons_succ])
      refine pl_eff rfl (fun Kp hKp => ?_)
      go_simp
      ((refine (errnum_spec _).mono ?_); rintro e79 w79 ⟨rfl, rfl⟩)
      (try go_wp2_with fail)
      refine hKp.out _ _ ?_
      clear hKp Kp
      (try simp only [Act.put, List.setIfInBounds_toArray, List.set_cons_zero, List.set_cons_succ])
      refine pl_take (v := .bool true) rfl ?_ ?_
      · (first | (go_simp; done) | (go_simp; with_reducible rfl) | (go_simp; rfl) | (go_simp; omega) | (go_simp; assumption) | (go_simp; simp; omega))
      (try simp only [Act.put, List.setIfInBounds_toArray, List.set_cons_zero, List.set_cons_succ])
      refine pl_done ?_
      refine hK11.out _ _ ?_
      clear hK11 K11
      refine wp_cond_true rfl ?_
      refine wk_seq (fun K12 hK12 => ?_)
      refine wk_reg ?_
      refine pl_take (v := ?_) rfl ?_ ?_
      rotate_left
      · (first | (go_simp; done) | (go_simp; with_reducible rfl) | (go_simp; rfl) | (go_simp; omega) | (go_simp; assumption) | (go_simp; simp; omega))
      (try simp only [Act.put, List.setIfInBounds_toArray, List.set_cons_zero, List.set_cons_succ])
      refine pl_eff rfl (fun Kp hKp => ?_)
      go_simp
      (refine (hG4 _ _ _ _ (by assumption) (by (repeat (first | with_reducible assumption | with_reducible exact Rd.own | with_reducible exact Rd.nil | with_reducible apply Rd.cons)))).mono ?_; rintro e83 w83 ⟨A83, c83, rfl, hs83⟩)
      (try go_wp2_with fail)
      refine hKp.out _ _ ?_
      clear hKp Kp
      (try simp only [Act.put, List.setIfInBounds_toArray, List.set_cons_zero, List.set_cons_succ])
      refine pl_take (v := ?_) rfl ?_ ?_
      rotate_left
      · (first | (go_simp; done) | (go_simp; with_reducible rfl) | (go_simp; rfl) | (go_simp; omega) | (go_simp; assumption) | (go_simp; simp; omega))
      (try simp only [Act.put, List.setIfInBounds_toArray, List.set_cons_zero, List.set_cons_succ])
      refine pl_take (v := ?_) rfl ?_ ?_
      rotate_left
      · (first | (go_simp; done) | (go_simp; with_reducible rfl) | (go_simp; rfl) | (go_simp; omega) | (go_simp; assumption) | (go_simp; simp; omega))
      (try simp only [Act.put, List.setIfInBounds_toArray, List.set_cons_zero, List.set_cons_succ])
      refine pl_take (v := ?_) rfl ?_ ?_
      rotate_left
      · (first | (go_simp; done) | (go_simp; with_reducible rfl) | (go_simp; rfl) | (go_simp; omega) | (go_simp; assumption) | (go_simp; simp; omega))
      (try simp only [Act.put, List.setIfInBounds_toArray, List.set_cons_zero, List.set_cons_succ])
      refine pl_eff rfl (fun Kp hKp => ?_)
      ((with_reducible apply st_alloc); assumption; intro b15 w15 hs15; simp only [Value.cells] at hs15)
      refine hKp.out _ _ ?_
      clear hKp Kp
      (try simp only [Act.put, List.setIfInBounds_toArray, List.set_cons_zero, List.set_cons_succ])
      refine pl_eff rfl (fun Kp hKp => ?_)
      (first | ((with_reducible apply st_storeAll); assumption; rfl; (go_simp; rfl); (repeat (first | with_reducible exact Out.here _ | apply Out.there)); rfl; (focus (first | (simp [Value.oneCell']; done) | (simp [Value.cells, Value.oneCell']; done))); rfl; intro wr10_6 hsr10_6; simp only [Value.cells] at hsr10_6) | ((with_reducible apply st_store); assumption; rfl; (go_simp; rfl); (repeat (first | with_reducible exact Out.here _ | apply Out.there)); rfl; (first | (focus (simp [Value.oneCell']; done)) | (simp [Value.cells, Value.oneCell'])); (first | (focus (simp; done)) | (simp [Value.cells])); intro wr10_6 hsr10_6; simp only [upd, Value.cells] at hsr10_6))
      refine hKp.out _ _ ?_
      clear hKp Kp
      dsimp only [Act.put]
      refine pl_take (v := ?_) rfl ?_ ?_
      rotate_left
      · (first | (go_simp; done) | (go_simp; with_reducible rfl) | (go_simp; rfl) | (go_simp; omega) | (go_simp; assumption) | (go_simp; simp; omega))
      (try simp only [Act.put, List.setIfInBounds_toArray, List.set_cons_zero, List.set_cons_succ])
      refine pl_done ?_
      refine hK12.out _ _ ?_
      clear hK12 K12
      refine wk_seq (fun K13 hK13 => ?_)
      refine wk_reg ?_
      refine pl_take (v := ?_) rfl ?_ ?_
      rotate_left
      · (first | (go_simp; done) | (go_simp; with_reducible rfl) | (go_simp; rfl) | (go_simp; omega) | (go_simp; assumption) | (go_simp; simp; omega))
      (try simp only [Act.put, List.setIfInBounds_toArray, List.set_cons_zero, List.set_cons_succ])
      refine pl_eff rfl (fun Kp hKp => ?_)
      go_simp
      ((refine (errnum_spec _).mono ?_); rintro e87 w87 ⟨rfl, rfl⟩)
      (try go_wp2_with fail)
      refine hKp.out _ _ ?_
      clear hKp Kp
      (try simp only [Act.put, List.setIfInBounds_toArray, List.set_cons_zero, List.set_cons_succ])
      refine pl_take (v := .bool false) rfl ?_ ?_
      · (first | (go_simp; done) | (go_simp; with_reducible rfl) | (go_simp; rfl) | (go_simp; omega) | (go_simp; assumption) | (go_simp; simp; omega))
      (try simp only [Act.put, List.setIfInBounds_toArray, List.set_cons_zero, List.set_cons_succ])
      refine pl_take (v := .bool false) rfl ?_ ?_
      · (first | (go_simp; done) | (go_simp; with_reducible rfl) | (go_simp; rfl) | (go_simp; omega) | (go_simp; assumption) | (go_simp; simp; omega))
      (try simp only [Act.put, List.setIfInBounds_toArray, List.set_cons_zero, List.set_cons_succ])
      refine pl_take (v := ?_) (by kernel_rfl) ?_ ?_
      rotate_left
      · (first | ((with_reducible apply yl_loadAgg); assumption; rfl; (repeat (first | with_reducible exact Out.here _ | apply Out.there)); (simp); rfl; rfl) | ((with_reducible apply yl_loadAggR); assumption; rfl; (repeat (first | with_reducible assumption | with_reducible exact Rd.own | with_reducible exact Rd.nil | with_reducible apply Rd.cons)); rfl))
      (try simp only [Act.put, List.setIfInBounds_toArray, List.set_cons_zero, List.set_cons_succ])
      refine pl_take (v := ?_) (by kernel_rfl) ?_ ?_
      rotate_left
      · (first | ((with_reducible apply yl_loadAgg); assumption; rfl; (repeat (first | with_reducible exact Out.here _ | apply Out.there)); (simp); rfl; rfl) | ((with_reducible apply yl_loadAggR); assumption; rfl; (repeat (first | with_reducible assumption | with_reducible exact Rd.own | with_reducible exact Rd.nil | with_reducible apply Rd.cons)); rfl))
      (try simp only [Act.put, List.setIfInBounds_toArray, List.set_cons_zero, List.set_cons_succ])
      refine pl_eff (by kernel_rfl) (fun Kp hKp => ?_)
      go_simp
      ((refine (same_refl (by assumption) (by (repeat (first | with_reducible assumption | with_reducible exact Rd.own | with_reducible exact Rd.nil | with_reducible apply Rd.cons))) (by (repeat (first | with_reducible assumption | with_reducible exact Rd.own | with_reducible exact Rd.nil | with_reducible apply Rd.cons)))).mono ?_); rintro e92 w92 ⟨rfl, hs92⟩)
      (try go_wp2_with fail)
      refine hKp.out _ _ ?_
      clear hKp Kp
      (try simp only [Act.put, List.setIfInBounds_toArray, List.set_cons_zero, List.set_cons_succ])
      refine pl_take (v := .bool false) (by kernel_rfl) ?_ ?_
      · (first | (go_simp; done) | (go_simp; with_reducible rfl) | (go_simp; rfl) | (go_simp; omega) | (go_simp; assumption) | (go_simp; simp; omega))
      (try simp only [Act.put, List.setIfInBounds_toArray, List.set_cons_zero, List.set_cons_succ])
      refine pl_take (v := .bool false) rfl ?_ ?_
      · (first | (go_simp; done) | (go_simp; with_reducible rfl) | (go_simp; rfl) | (go_simp; omega) | (go_simp; assumption) | (go_simp; simp; omega))
      (try simp only [Act.put, List.setIfInBounds_toArray, List.set_cons_zero, List.set_cons_succ])
      refine pl_done ?_
      refine hK13.out _ _ ?_
      clear hK13 K13
      refine wp_cond_false rfl ?_
      refine wp_skip ?_
      refine hK10.out _ _ ?_
      clear hK10 K10
      refine wk_seq (fun K15 hK15 => ?_)
      refine wk_seq (fun K16 hK16 => ?_)
      refine wk_reg ?_
      refine pl_take (v := ?_) rfl ?_ ?_
      rotate_left
      · (first | (go_simp; done) | (go_simp; with_reducible rfl) | (go_simp; rfl) | (go_simp; omega) | (go_simp; assumption) | (go_simp; simp; omega))
      (try simp only [Act.put, List.setIfInBounds_toArray, List.set_cons_zero, List.set_cons_succ])
      refine pl_eff rfl (fun Kp hKp => ?_)
      go_simp
      ((refine (errnum_spec _).mono ?_); rintro e96 w96 ⟨rfl, rfl⟩)
      (try go_wp2_with fail)
      refine hKp.out _ _ ?_
      clear hKp Kp
      (try simp only [Act.put, List.setIfInBounds_toArray, List.set_cons_zero, List.set_cons_succ])
      refine pl_take (v := .bool false) rfl ?_ ?_
      · (first | (go_simp; done) | (go_simp; with_reducible rfl) | (go_simp; rfl) | (go_simp; omega) | (go_simp; assumption) | (go_simp; simp; omega))
      (try simp only [Act.put, List.setIfInBounds_toArray, List.set_cons_zero, List.set_cons_succ])
      refine pl_done ?_
      refine hK16.out _ _ ?_
      clear hK16 K16
      refine wp_cond_false rfl ?_
      refine wp_skip ?_
      refine hK15.out _ _ ?_
      clear hK15 K15
      refine wk_seq (fun K20 hK20 => ?_)
      refine wk_reg ?_
      refine pl_eff rfl (fun Kp hKp => ?_)
      go_simp
      ((refine (knows_spec (by assumption)).mono ?_); rintro e113 w113 ⟨rfl, hs113⟩)
      (try go_wp2_with fail)
      refine hKp.out _ _ ?_
      clear hKp Kp
      (try simp only [Act.put, List.setIfInBounds_toArray, List.set_cons_zero, List.set_cons_succ])
      refine pl_take (v := ?_) rfl ?_ ?_
      rotate_left
      · (first | (go_simp; done) | (go_simp; with_reducible rfl) | (go_simp; rfl) | (go_simp; omega) | (go_simp; assumption) | (go_simp; simp; omega))
      (try simp only [Act.put, List.setIfInBounds_toArray, List.set_cons_zero, List.set_cons_succ])
      refine pl_done ?_
      refine hK20.out _ _ ?_
      clear hK20 K20
      refine wp_ret ?_
      go_ret
      exact ⟨rfl, hs113.pick (by (repeat (first | exact Pick.nil _ | exact Pick.tail _ | exact Out.here _ | apply Out.there | apply Pick.cons | apply Pick.drop)))⟩
  · clear hG3
    rcases hgg with rfl | rfl
    · have hP4 := hP3 rfl
      clear hP3
      go_enter Try.func9, Try.ntmps9
      refine wk_seq (fun K0 hK0 => ?_)
      refine wk_reg ?_
      refine pl_eff rfl (fun Kp hKp => ?_)
      ((with_reducible apply st_box); assumption; (go_simp; rfl); intro b2 w2 hs2; simp only [Value.cells] at hs2)
      refine hKp.out _ _ ?_
      clear hKp Kp
      (try simp only [Act.put, List.setIfInBounds_toArray, List.set_cons_zero, List.set_cons_succ])
      refine pl_take (v := .bool false) rfl ?_ ?_
      · (first | (go_simp; done) | (go_simp; with_reducible rfl) | (go_simp; rfl) | (go_simp; omega) | (go_simp; assumption) | (go_simp; simp; omega))
      (try simp only [Act.put, List.setIfInBounds_toArray, List.set_cons_zero, List.set_cons_succ])
      refine pl_done ?_
      refine hK0.out _ _ ?_
      clear hK0 K0
      refine wk_seq (fun K1 hK1 => ?_)
      refine wk_reg ?_
      refine pl_take (v := ?_) rfl ?_ ?_
      rotate_left
      · (first | (go_simp; done) | (go_simp; with_reducible rfl) | (go_simp; rfl) | (go_simp; omega) | (go_simp; assumption) | (go_simp; simp; omega))
      (try simp only [Act.put, List.setIfInBounds_toArray, List.set_cons_zero, List.set_cons_succ])
      refine pl_eff rfl (fun Kp hKp => ?_)
      go_simp
      ((refine (lent_spec bl (by omega) (by assumption) (by (repeat (first | with_reducible assumption | with_reducible exact Rd.own | with_reducible exact Rd.nil | with_reducible apply Rd.cons)))).mono ?_); rintro e20 w20 ⟨g20, c20, rfl, hs20⟩)
      (try go_wp2_with fail)
      refine hKp.out _ _ ?_
      clear hKp Kp
      (try simp only [Act.put, List.setIfInBounds_toArray, List.set_cons_zero, List.set_cons_succ])
      refine pl_take (v := ?_) rfl ?_ ?_
      rotate_left
      · (first | (go_simp; done) | (go_simp; with_reducible rfl) | (go_simp; rfl) | (go_simp; omega) | (go_simp; assumption) | (go_simp; simp; omega))
      (try simp only [Act.put, List.setIfInBounds_toArray, List.set_cons_zero, List.set_cons_succ])
      refine pl_done ?_
      refine hK1.out _ _ ?_
      clear hK1 K1
      refine wk_seq (fun K2 hK2 => ?_)
      refine wk_reg ?_
      refine pl_take (v := ?_) rfl ?_ ?_
      rotate_left
      · (first | ((with_reducible apply yl_loadAgg); assumption; rfl; (repeat (first | with_reducible exact Out.here _ | apply Out.there)); (simp); rfl; rfl) | ((with_reducible apply yl_loadAggR); assumption; rfl; (repeat (first | with_reducible assumption | with_reducible exact Rd.own | with_reducible exact Rd.nil | with_reducible apply Rd.cons)); rfl))
      (try simp only [Act.put, List.setIfInBounds_toArray, List.set_cons_zero, List.set_cons_succ])
      refine pl_eff rfl (fun Kp hKp => ?_)
      go_simp
      ((refine (own_spec (by omega) (by assumption) (by (repeat (first | with_reducible assumption | with_reducible exact Rd.own | with_reducible exact Rd.nil | with_reducible apply Rd.cons)))).mono ?_); rintro e22 w22 ⟨A22, c22, rfl, hs22⟩)
      (try go_wp2_with fail)
      refine hKp.out _ _ ?_
      clear hKp Kp
      (try simp only [Act.put, List.setIfInBounds_toArray, List.set_cons_zero, List.set_cons_succ])
      refine pl_eff rfl (fun Kp hKp => ?_)
      ((with_reducible apply st_alloc); assumption; intro b6 w6 hs6; simp only [Value.cells] at hs6)
      refine hKp.out _ _ ?_
      clear hKp Kp
      (try simp only [Act.put, List.setIfInBounds_toArray, List.set_cons_zero, List.set_cons_succ])
      refine pl_eff rfl (fun Kp hKp => ?_)
      (first | ((with_reducible apply st_storeAll); assumption; rfl; (go_simp; rfl); (repeat (first | with_reducible exact Out.here _ | apply Out.there)); rfl; (focus (first | (simp [Value.oneCell']; done) | (simp [Value.cells, Value.oneCell']; done))); rfl; intro wr2_3 hsr2_3; simp only [Value.cells] at hsr2_3) | ((with_reducible apply st_store); assumption; rfl; (go_simp; rfl); (repeat (first | with_reducible exact Out.here _ | apply Out.there)); rfl; (first | (focus (simp [Value.oneCell']; done)) | (simp [Value.cells, Value.oneCell'])); (first | (focus (simp; done)) | (simp [Value.cells])); intro wr2_3 hsr2_3; simp only [upd, Value.cells] at hsr2_3))
      refine hKp.out _ _ ?_
      clear hKp Kp
      dsimp only [Act.put]
      refine pl_done ?_
      refine hK2.out _ _ ?_
      clear hK2 K2
      refine wk_seq (fun K3 hK3 => ?_)
      refine wk_reg ?_
      refine pl_take (v := ?_) rfl ?_ ?_
      rotate_left
      · (first | ((with_reducible apply yl_loadAgg); assumption; rfl; (repeat (first | with_reducible exact Out.here _ | apply Out.there)); (simp); rfl; rfl) | ((with_reducible apply yl_loadAggR); assumption; rfl; (repeat (first | with_reducible assumption | with_reducible exact Rd.own | with_reducible exact Rd.nil | with_reducible apply Rd.cons)); rfl))
      (try simp only [Act.put, List.setIfInBounds_toArray, List.set_cons_zero, List.set_cons_succ])
      refine pl_eff rfl (fun Kp hKp => ?_)
      go_simp
      ((refine (hP (by assumption) (by (repeat (first | with_reducible assumption | with_reducible exact Rd.own | with_reducible exact Rd.nil | with_reducible apply Rd.cons)))).mono ?_); rintro e25 w25 ⟨A25, c25, rfl, hs25⟩)
      (try go_wp2_with fail)
      refine hKp.out _ _ ?_
      clear hKp Kp
      (try simp only [Act.put, List.setIfInBounds_toArray, List.set_cons_zero, List.set_cons_succ])
      refine pl_take (v := ?_) rfl ?_ ?_
      rotate_left
      · (first | (go_simp; done) | (go_simp; with_reducible rfl) | (go_simp; rfl) | (go_simp; omega) | (go_simp; assumption) | (go_simp; simp; omega))
      (try simp only [Act.put, List.setIfInBounds_toArray, List.set_cons_zero, List.set_cons_succ])
      refine pl_take (v := ?_) rfl ?_ ?_
      rotate_left
      · (first | (go_simp; done) | (go_simp; with_reducible rfl) | (go_simp; rfl) | (go_simp; omega) | (go_simp; assumption) | (go_simp; simp; omega))
      (try simp only [Act.put, List.setIfInBounds_toArray, List.set_cons_zero, List.set_cons_succ])
      refine pl_take (v := ?_) rfl ?_ ?_
      rotate_left
      · (first | (go_simp; done) | (go_simp; with_reducible rfl) | (go_simp; rfl) | (go_simp; omega) | (go_simp; assumption) | (go_simp; simp; omega))
      (try simp only [Act.put, List.setIfInBounds_toArray, List.set_cons_zero, List.set_cons_succ])
      refine pl_take (v := ?_) rfl ?_ ?_
      rotate_left
      · (first | (go_simp; done) | (go_simp; with_reducible rfl) | (go_simp; rfl) | (go_simp; omega) | (go_simp; assumption) | (go_simp; simp; omega))
      (try simp only [Act.put, List.setIfInBounds_toArray, List.set_cons_zero, List.set_cons_succ])
      refine pl_take (v := ?_) rfl ?_ ?_
      rotate_left
      · (first | (go_simp; done) | (go_simp; with_reducible rfl) | (go_simp; rfl) | (go_simp; omega) | (go_simp; assumption) | (go_simp; simp; omega))
      (try simp only [Act.put, List.setIfInBounds_toArray, List.set_cons_zero, List.set_cons_succ])
      refine pl_done ?_
      refine hK3.out _ _ ?_
      clear hK3 K3
      refine wk_seq (fun K4 hK4 => ?_)
      refine wk_reg ?_
      refine pl_take (v := ?_) rfl ?_ ?_
      rotate_left
      · (first | ((with_reducible apply yl_loadAgg); assumption; rfl; (repeat (first | with_reducible exact Out.here _ | apply Out.there)); (simp); rfl; rfl) | ((with_reducible apply yl_loadAggR); assumption; rfl; (repeat (first | with_reducible assumption | with_reducible exact Rd.own | with_reducible exact Rd.nil | with_reducible apply Rd.cons)); rfl))
      (try simp only [Act.put, List.setIfInBounds_toArray, List.set_cons_zero, List.set_cons_succ])
      refine pl_eff rfl (fun Kp hKp => ?_)
      go_simp
      ((refine (hP2 (by assumption) (by (repeat (first | with_reducible assumption | with_reducible exact Rd.own | with_reducible exact Rd.nil | with_reducible apply Rd.cons)))).mono ?_); rintro e30 w30 ⟨A30, c30, rfl, hs30⟩)
      (try go_wp2_with fail)
      refine hKp.out _ _ ?_
      clear hKp Kp
      (try simp only [Act.put, List.setIfInBounds_toArray, List.set_cons_zero, List.set_cons_succ])
      refine pl_take (v := ?_) rfl ?_ ?_
      rotate_left
      · (first | (go_simp; done) | (go_simp; with_reducible rfl) | (go_simp; rfl) | (go_simp; omega) | (go_simp; assumption) | (go_simp; simp; omega))
      (try simp only [Act.put, List.setIfInBounds_toArray, List.set_cons_zero, List.set_cons_succ])
      refine pl_take (v := ?_) rfl ?_ ?_
      rotate_left
      · (first | (go_simp; done) | (go_simp; with_reducible rfl) | (go_simp; rfl) | (go_simp; omega) | (go_simp; assumption) | (go_simp; simp; omega))
      (try simp only [Act.put, List.setIfInBounds_toArray, List.set_cons_zero, List.set_cons_succ])
      refine pl_take (v := ?_) rfl ?_ ?_
      rotate_left
      · (first | (go_simp; done) | (go_simp; with_reducible rfl) | (go_simp; rfl) | (go_simp; omega) | (go_simp; assumption) | (go_simp; simp; omega))
      (try simp only [Act.put, List.setIfInBounds_toArray, List.set_cons_zero, List.set_cons_succ])
      refine pl_take (v := ?_) rfl ?_ ?_
      rotate_left
      · (first | (go_simp; done) | (go_simp; with_reducible rfl) | (go_simp; rfl) | (go_simp; omega) | (go_simp; assumption) | (go_simp; simp; omega))
      (try simp only [Act.put, List.setIfInBounds_toArray, List.set_cons_zero, List.set_cons_succ])
      refine pl_take (v := ?_) rfl ?_ ?_
      rotate_left
      · (first | (go_simp; done) | (go_simp; with_reducible rfl) | (go_simp; rfl) | (go_simp; omega) | (go_simp; assumption) | (go_simp; simp; omega))
      (try simp only [Act.put, List.setIfInBounds_toArray, List.set_cons_zero, List.set_cons_succ])
      refine pl_done ?_
      refine hK4.out _ _ ?_
      clear hK4 K4
      refine wk_seq (fun K5 hK5 => ?_)
      refine wk_reg ?_
      refine pl_take (v := ?_) rfl ?_ ?_
      rotate_left
      · (first | (go_simp; done) | (go_simp; with_reducible rfl) | (go_simp; rfl) | (go_simp; omega) | (go_simp; assumption) | (go_simp; simp; omega))
      (try simp only [Act.put, List.setIfInBounds_toArray, List.set_cons_zero, List.set_cons_succ])
      refine pl_eff rfl (fun Kp hKp => ?_)
      go_simp
      ((refine (hG (by assumption) (by (repeat (first | with_reducible exact Rd.lent bl | with_reducible assumption | with_reducible apply Rd.cons)))).mono ?_); rintro e35 w35 ⟨A35, c35, rfl, hs35⟩)
      (try go_wp2_with fail)
      refine hKp.out _ _ ?_
      clear hKp Kp
      (try simp only [Act.put, List.setIfInBounds_toArray, List.set_cons_zero, List.set_cons_succ])
      refine pl_take (v := ?_) rfl ?_ ?_
      rotate_left
      · (first | (go_simp; done) | (go_simp; with_reducible rfl) | (go_simp; rfl) | (go_simp; omega) | (go_simp; assumption) | (go_simp; simp; omega))
      (try simp only [Act.put, List.setIfInBounds_toArray, List.set_cons_zero, List.set_cons_succ])
      refine pl_take (v := ?_) rfl ?_ ?_
      rotate_left
      · (first | (go_simp; done) | (go_simp; with_reducible rfl) | (go_simp; rfl) | (go_simp; omega) | (go_simp; assumption) | (go_simp; simp; omega))
      (try simp only [Act.put, List.setIfInBounds_toArray, List.set_cons_zero, List.set_cons_succ])
      refine pl_take (v := ?_) rfl ?_ ?_
      rotate_left
      · (first | (go_simp; done) | (go_simp; with_reducible rfl) | (go_simp; rfl) | (go_simp; omega) | (go_simp; assumption) | (go_simp; simp; omega))
      (try simp only [Act.put, List.setIfInBounds_toArray, List.set_cons_zero, List.set_cons_succ])
      refine pl_eff rfl (fun Kp hKp => ?_)
      ((with_reducible apply st_alloc); assumption; intro b11 w11 hs11; simp only [Value.cells] at hs11)
      refine hKp.out _ _ ?_
      clear hKp Kp
      (try simp only [Act.put, List.setIfInBounds_toArray, List.set_cons_zero, List.set_cons_succ])
      refine pl_eff rfl (fun Kp hKp => ?_)
      (first | ((with_reducible apply st_storeAll); assumption; rfl; (go_simp; rfl); (repeat (first | with_reducible exact Out.here _ | apply Out.there)); rfl; (focus (first | (simp [Value.oneCell']; done) | (simp [Value.cells, Value.oneCell']; done))); rfl; intro wr5_6 hsr5_6; simp only [Value.cells] at hsr5_6) | ((with_reducible apply st_store); assumption; rfl; (go_simp; rfl); (repeat (first | with_reducible exact Out.here _ | apply Out.there)); rfl; (first | (focus (simp [Value.oneCell']; done)) | (simp [Value.cells, Value.oneCell'])); (first | (focus (simp; done)) | (simp [Value.cells])); intro wr5_6 hsr5_6; simp only [upd, Value.cells] at hsr5_6))
      refine hKp.out _ _ ?_
      clear hKp Kp
      dsimp only [Act.put]
      refine pl_take (v := ?_) rfl ?_ ?_
      rotate_left
      · (first | (go_simp; done) | (go_simp; with_reducible rfl) | (go_simp; rfl) | (go_simp; omega) | (go_simp; assumption) | (go_simp; simp; omega))
      (try simp only [Act.put, List.setIfInBounds_toArray, List.set_cons_zero, List.set_cons_succ])
      refine pl_done ?_
      refine hK5.out _ _ ?_
      clear hK5 K5
      refine wk_seq (fun K6 hK6 => ?_)
      refine wk_reg ?_
      refine pl_take (v := ?_) rfl ?_ ?_
      rotate_left
      · (first | (go_simp; done) | (go_simp; with_reducible rfl) | (go_simp; rfl) | (go_simp; omega) | (go_simp; assumption) | (go_simp; simp; omega))
      (try simp only [Act.put, List.setIfInBounds_toArray, List.set_cons_zero, List.set_cons_succ])
      refine pl_eff rfl (fun Kp hKp => ?_)
      go_simp
      ((refine (hG2 (by assumption) (by (repeat (first | with_reducible assumption | with_reducible exact Rd.own | with_reducible exact Rd.nil | with_reducible apply Rd.cons)))).mono ?_); rintro e40 w40 ⟨A40, c40, rfl, hs40⟩)
      (try go_wp2_with fail)
      refine hKp.out _ _ ?_
      clear hKp Kp
      (try simp only [Act.put, List.setIfInBounds_toArray, List.set_cons_zero, List.set_cons_succ])
      refine pl_take (v := ?_) rfl ?_ ?_
      rotate_left
      · (first | (go_simp; done) | (go_simp; with_reducible rfl) | (go_simp; rfl) | (go_simp; omega) | (go_simp; assumption) | (go_simp; simp; omega))
      (try simp only [Act.put, List.setIfInBounds_toArray, List.set_cons_zero, List.set_cons_succ])
      refine pl_take (v := ?_) rfl ?_ ?_
      rotate_left
      · (first | (go_simp; done) | (go_simp; with_reducible rfl) | (go_simp; rfl) | (go_simp; omega) | (go_simp; assumption) | (go_simp; simp; omega))
      (try simp only [Act.put, List.setIfInBounds_toArray, List.set_cons_zero, List.set_cons_succ])
      refine pl_take (v := ?_) rfl ?_ ?_
      rotate_left
      · (first | (go_simp; done) | (go_simp; with_reducible rfl) | (go_simp; rfl) | (go_simp; omega) | (go_simp; assumption) | (go_simp; simp; omega))
      (try simp only [Act.put, List.setIfInBounds_toArray, List.set_cons_zero, List.set_cons_succ])
      refine pl_eff rfl (fun Kp hKp => ?_)
      ((with_reducible apply st_alloc); assumption; intro b13 w13 hs13; simp only [Value.cells] at hs13)
      refine hKp.out _ _ ?_
      clear hKp Kp
      (try simp only [Act.put, List.setIfInBounds_toArray, List.set_cons_zero, List.set_cons_succ])
      refine pl_eff rfl (fun Kp hKp => ?_)
      (first | ((with_reducible apply st_storeAll); assumption; rfl; (go_simp; rfl); (repeat (first | with_reducible exact Out.here _ | apply Out.there)); rfl; (focus (first | (simp [Value.oneCell']; done) | (simp [Value.cells, Value.oneCell']; done))); rfl; intro wr6_6 hsr6_6; simp only [Value.cells] at hsr6_6) | ((with_reducible apply st_store); assumption; rfl; (go_simp; rfl); (repeat (first | with_reducible exact Out.here _ | apply Out.there)); rfl; (first | (focus (simp [Value.oneCell']; done)) | (simp [Value.cells, Value.oneCell'])); (first | (focus (simp; done)) | (simp [Value.cells])); intro wr6_6 hsr6_6; simp only [upd, Value.cells] at hsr6_6))
      refine hKp.out _ _ ?_
      clear hKp Kp
      dsimp only [Act.put]
      refine pl_take (v := ?_) rfl ?_ ?_
      rotate_left
      · (first | (go_simp; done) | (go_simp; with_reducible rfl) | (go_simp; rfl) | (go_simp; omega) | (go_simp; assumption) | (go_simp; simp; omega))
      (try simp only [Act.put, List.setIfInBounds_toArray, List.set_cons_zero, List.set_cons_succ])
      refine pl_done ?_
      refine hK6.out _ _ ?_
      clear hK6 K6
      refine wk_seq (fun K7 hK7 => ?_)
      refine wk_seq (fun K8 hK8 => ?_)
      refine wk_reg ?_
      refine pl_take (v := ?_) rfl ?_ ?_
      rotate_left
      · (first | (go_simp; done) | (go_simp; with_reducible rfl) | (go_simp; rfl) | (go_simp; omega) | (go_simp; assumption) | (go_simp; simp; omega))
      (try simp only [Act.put, List.setIfInBounds_toArray, List.set_cons_zero, List.set_cons_succ])
      refine pl_take (v := ?_) rfl ?_ ?_
      rotate_left
      · (first | ((with_reducible apply yl_b2s); assumption; rfl; (repeat (first | with_reducible assumption | with_reducible exact Rd.own | with_reducible exact Rd.nil | with_reducible apply Rd.cons)); rfl) | (first | (go_simp; done) | (go_simp; with_reducible rfl) | (go_simp; rfl) | (go_simp; omega) | (go_simp; assumption) | (go_simp; simp; omega)))
      (try simp only [Act.put, List.setIfInBounds_toArray, List.set_cons_zero, List.set_cons_succ])
      refine pl_take (v := ?_) rfl ?_ ?_
      rotate_left
      · (first | (go_simp; done) | (go_simp; with_reducible rfl) | (go_simp; rfl) | (go_simp; omega) | (go_simp; assumption) | (go_simp; simp; omega))
      (try simp only [Act.put, List.setIfInBounds_toArray, List.set_cons_zero, List.set_cons_succ])
      refine pl_take (v := ?_) rfl ?_ ?_
      rotate_left
      · (first | ((with_reducible apply yl_b2s); assumption; rfl; (repeat (first | with_reducible assumption | with_reducible exact Rd.own | with_reducible exact Rd.nil | with_reducible apply Rd.cons)); rfl) | (first | (go_simp; done) | (go_simp; with_reducible rfl) | (go_simp; rfl) | (go_simp; omega) | (go_simp; assumption) | (go_simp; simp; omega)))
      (try simp only [Act.put, List.setIfInBounds_toArray, List.set_cons_zero, List.set_cons_succ])
      refine pl_take (v := .bool false) rfl ?_ ?_
      · (first | (go_simp; done) | (go_simp; with_reducible rfl) | (go_simp; rfl) | (go_simp; omega) | (go_simp; assumption) | (go_simp; simp; omega))
      (try simp only [Act.put, List.setIfInBounds_toArray, List.set_cons_zero, List.set_cons_succ])
      refine pl_take (v := .bool false) rfl ?_ ?_
      · (first | (go_simp; done) | (go_simp; with_reducible rfl) | (go_simp; rfl) | (go_simp; omega) | (go_simp; assumption) | (go_simp; simp; omega))
      (try simp only [Act.put, List.setIfInBounds_toArray, List.set_cons_zero, List.set_cons_succ])
      refine pl_take (v := ?_) (by kernel_rfl) ?_ ?_
      rotate_left
      · (first | (go_simp; done) | (go_simp; with_reducible rfl) | (go_simp; rfl) | (go_simp; omega) | (go_simp; assumption) | (go_simp; simp; omega))
      (try simp only [Act.put, List.setIfInBounds_toArray, List.set_cons_zero, List.set_cons_succ])
      refine pl_eff (by kernel_rfl) (fun Kp hKp => ?_)
      go_simp
      ((refine (errnum_spec _).mono ?_); rintro e50 w50 ⟨rfl, rfl⟩)
      (try go_wp2_with fail)
      refine hKp.out _ _ ?_
      clear hKp Kp
      (try simp only [Act.put, List.setIfInBounds_toArray, List.set_cons_zero, List.set_cons_succ])
      refine pl_take (v := ?_) (by kernel_rfl) ?_ ?_
      rotate_left
      · (first | (go_simp; done) | (go_simp; with_reducible rfl) | (go_simp; rfl) | (go_simp; omega) | (go_simp; assumption) | (go_simp; simp; omega))
      (try simp only [Act.put, List.setIfInBounds_toArray, List.set_cons_zero, List.set_cons_succ])
      refine pl_take (v := .bool false) (by kernel_rfl) ?_ ?_
      · (first | (go_simp; done) | (go_simp; with_reducible rfl) | (go_simp; rfl) | (go_simp; omega) | (go_simp; assumption) | (go_simp; simp; omega))
      (try simp only [Act.put, List.setIfInBounds_toArray, List.set_cons_zero, List.set_cons_succ])
      refine pl_take (v := .bool false) rfl ?_ ?_
      · (first | (go_simp; done) | (go_simp; with_reducible rfl) | (go_simp; rfl) | (go_simp; omega) | (go_simp; assumption) | (go_simp; simp; omega))
      (try simp only [Act.put, List.setIfInBounds_toArray, List.set_cons_zero, List.set_cons_succ])
      refine pl_take (v := .bool false) rfl ?_ ?_
      · (first | (go_simp; done) | (go_simp; with_reducible rfl) | (go_simp; rfl) | (go_simp; omega) | (go_simp; assumption) | (go_simp; simp; omega))
      (try simp only [Act.put, List.setIfInBounds_toArray, List.set_cons_zero, List.set_cons_succ])
      refine pl_take (v := ?_) (by kernel_rfl) ?_ ?_
      rotate_left
      · (first | ((with_reducible apply yl_loadAgg); assumption; rfl; (repeat (first | with_reducible exact Out.here _ | apply Out.there)); (simp); rfl; rfl) | ((with_reducible apply yl_loadAggR); assumption; rfl; (repeat (first | with_reducible assumption | with_reducible exact Rd.own | with_reducible exact Rd.nil | with_reducible apply Rd.cons)); rfl))
      (try simp only [Act.put, List.setIfInBounds_toArray, List.set_cons_zero, List.set_cons_succ])
      refine pl_take (v := ?_) (by kernel_rfl) ?_ ?_
      rotate_left
      · (first | ((with_reducible apply yl_loadAgg); assumption; rfl; (repeat (first | with_reducible exact Out.here _ | apply Out.there)); (simp); rfl; rfl) | ((with_reducible apply yl_loadAggR); assumption; rfl; (repeat (first | with_reducible assumption | with_reducible exact Rd.own | with_reducible exact Rd.nil | with_reducible apply Rd.cons)); rfl))
      (try simp only [Act.put, List.setIfInBounds_toArray, List.set_cons_zero, List.set_cons_succ])
      refine pl_eff (by kernel_rfl) (fun Kp hKp => ?_)
      go_simp
      ((refine (same_refl (by assumption) (by (repeat (first | with_reducible assumption | with_reducible exact Rd.own | with_reducible exact Rd.nil | with_reducible apply Rd.cons))) (by (repeat (first | with_reducible assumption | with_reducible exact Rd.own | with_reducible exact Rd.nil | with_reducible apply Rd.cons)))).mono ?_); rintro e57 w57 ⟨rfl, hs57⟩)
      (try go_wp2_with fail)
      refine hKp.out _ _ ?_
      clear hKp Kp
      (try simp only [Act.put, List.setIfInBounds_toArray, List.set_cons_zero, List.set_cons_succ])
      refine pl_take (v := .bool false) (by kernel_rfl) ?_ ?_
      · (first | (go_simp; done) | (go_simp; with_reducible rfl) | (go_simp; rfl) | (go_simp; omega) | (go_simp; assumption) | (go_simp; simp; omega))
      (try simp only [Act.put, List.setIfInBounds_toArray, List.set_cons_zero, List.set_cons_succ])
      refine pl_take (v := .bool false) rfl ?_ ?_
      · (first | (go_simp; done) | (go_simp; with_reducible rfl) | (go_simp; rfl) | (go_simp; omega) | (go_simp; assumption) | (go_simp; simp; omega))
      (try simp only [Act.put, List.setIfInBounds_toArray, List.set_cons_zero, List.set_cons_succ])
      refine pl_take (v := .bool false) rfl ?_ ?_
      · (first | (go_simp; done) | (go_simp; with_reducible rfl) | (go_simp; rfl) | (go_simp; omega) | (go_simp; assumption) | (go_simp; simp; omega))
      (try simp only [Act.put, List.setIfInBounds_toArray, List.set_cons_zero, List.set_cons_succ])
      refine pl_take (v := ?_) (by kernel_rfl) ?_ ?_
      rotate_left
      · (first | (go_simp; done) | (go_simp; with_reducible rfl) | (go_simp; rfl) | (go_simp; omega) | (go_simp; assumption) | (go_simp; simp; omega))
      (try simp only [Act.put, List.setIfInBounds_toArray, List.set_cons_zero, List.set_cons_succ])
      refine pl_eff (by kernel_rfl) (fun Kp hKp => ?_)
      go_simp
      ((refine (errnum_spec _).mono ?_); rintro e62 w62 ⟨rfl, rfl⟩)
      (try go_wp2_with fail)
      refine hKp.out _ _ ?_
      clear hKp Kp
      (try simp only [Act.put, List.setIfInBounds_toArray, List.set_cons_zero, List.set_cons_succ])
      refine pl_take (v := ?_) (by kernel_rfl) ?_ ?_
      rotate_left
      · (first | (go_simp; done) | (go_simp; with_reducible rfl) | (go_simp; rfl) | (go_simp; omega) | (go_simp; assumption) | (go_simp; simp; omega))
      (try simp only [Act.put, List.setIfInBounds_toArray, List.set_cons_zero, List.set_cons_succ])
      refine pl_take (v := .bool false) (by kernel_rfl) ?_ ?_
      · (first | (go_simp; done) | (go_simp; with_reducible rfl) | (go_simp; rfl) | (go_simp; omega) | (go_simp; assumption) | (go_simp; simp; omega))
      (try simp only [Act.put, List.setIfInBounds_toArray, List.set_cons_zero, List.set_cons_succ])
      refine pl_take (v := .bool false) rfl ?_ ?_
      · (first | (go_simp; done) | (go_simp; with_reducible rfl) | (go_simp; rfl) | (go_simp; omega) | (go_simp; assumption) | (go_simp; simp; omega))
      (try simp only [Act.put, List.setIfInBounds_toArray, List.set_cons_zero, List.set_cons_succ])
      refine pl_take (v := .bool false) rfl ?_ ?_
      · (first | (go_simp; done) | (go_simp; with_reducible rfl) | (go_simp; rfl) | (go_simp; omega) | (go_simp; assumption) | (go_simp; simp; omega))
      (try simp only [Act.put, List.setIfInBounds_toArray, List.set_cons_zero, List.set_cons_succ])
      refine pl_take (v := ?_) (by kernel_rfl) ?_ ?_
      rotate_left
      · (first | ((with_reducible apply yl_loadAgg); assumption; rfl; (repeat (first | with_reducible exact Out.here _ | apply Out.there)); (simp); rfl; rfl) | ((with_reducible apply yl_loadAggR); assumption; rfl; (repeat (first | with_reducible assumption | with_reducible exact Rd.own | with_reducible exact Rd.nil | with_reducible apply Rd.cons)); rfl))
      (try simp only [Act.put, List.setIfInBounds_toArray, List.set_cons_zero, List.set_cons_succ])
      refine pl_take (v := ?_) (by kernel_rfl) ?_ ?_
      rotate_left
      · (first | ((with_reducible apply yl_loadAgg); assumption; rfl; (repeat (first | with_reducible exact Out.here _ | apply Out.there)); (simp); rfl; rfl) | ((with_reducible apply yl_loadAggR); assumption; rfl; (repeat (first | with_reducible assumption | with_reducible exact Rd.own | with_reducible exact Rd.nil | with_reducible apply Rd.cons)); rfl))
      (try simp only [Act.put, List.setIfInBounds_toArray, List.set_cons_zero, List.set_cons_succ])
      refine pl_eff (by kernel_rfl) (fun Kp hKp => ?_)
      go_simp
      ((refine (same_refl (by assumption) (by (repeat (first | with_reducible assumption | with_reducible exact Rd.own | with_reducible exact Rd.nil | with_reducible apply Rd.cons))) (by (repeat (first | with_reducible assumption | with_reducible exact Rd.own | with_reducible exact Rd.nil | with_reducible apply Rd.cons)))).mono ?_); rintro e69 w69 ⟨rfl, hs69⟩)
      (try go_wp2_with fail)
      refine hKp.out _ _ ?_
      clear hKp Kp
      (try simp only [Act.put, List.setIfInBounds_toArray, List.set_cons_zero, List.set_cons_succ])
      refine pl_take (v := .bool false) (by kernel_rfl) ?_ ?_
      · (first | (go_simp; done) | (go_simp; with_reducible rfl) | (go_simp; rfl) | (go_simp; omega) | (go_simp; assumption) | (go_simp; simp; omega))
      (try simp only [Act.put, List.setIfInBounds_toArray, List.set_cons_zero, List.set_cons_succ])
      refine pl_take (v := .bool false) rfl ?_ ?_
      · (first | (go_simp; done) | (go_simp; with_reducible rfl) | (go_simp; rfl) | (go_simp; omega) | (go_simp; assumption) | (go_simp; simp; omega))
      (try simp only [Act.put, List.setIfInBounds_toArray, List.set_cons_zero, List.set_cons_succ])
      refine pl_take (v := .bool false) rfl ?_ ?_
      · (first | (go_simp; done) | (go_simp; with_reducible rfl) | (go_simp; rfl) | (go_simp; omega) | (go_simp; assumption) | (go_simp; simp; omega))
      (try simp only [Act.put, List.setIfInBounds_toArray, List.set_cons_zero, List.set_cons_succ])
      refine pl_take (v := ?_) (by kernel_rfl) ?_ ?_
      rotate_left
      · (first | (go_simp; done) | (go_simp; with_reducible rfl) | (go_simp; rfl) | (go_simp; omega) | (go_simp; assumption) | (go_simp; simp; omega))
      (try simp only [Act.put, List.setIfInBounds_toArray, List.set_cons_zero, List.set_cons_succ])
      refine pl_take (v := ?_) (by kernel_rfl) ?_ ?_
      rotate_left
      · (first | (go_simp; done) | (go_simp; with_reducible rfl) | (go_simp; rfl) | (go_simp; omega) | (go_simp; assumption) | (go_simp; simp; omega))
      (try simp only [Act.put, List.setIfInBounds_toArray, List.set_cons_zero, List.set_cons_succ])
      refine pl_eff (by kernel_rfl) (fun Kp hKp => ?_)
      go_simp
      ((refine (stays_spec bl (by omega) (by assumption) (by (repeat (first | with_reducible exact Out.here _ | apply Out.there))) (by (repeat (first | with_reducible assumption | with_reducible exact Rd.own | with_reducible exact Rd.nil | with_reducible apply Rd.cons)))).mono ?_); rintro e75 w75 ⟨rfl, hs75⟩)
      (try go_wp2_with fail)
      refine hKp.out _ _ ?_
      clear hKp Kp
      (try simp only [Act.put, List.setIfInBounds_toArray, List.set_cons_zero, List.set_cons_succ])
      refine pl_take (v := .bool false) (by kernel_rfl) ?_ ?_
      · (first | (go_simp; done) | (go_simp; with_reducible rfl) | (go_simp; rfl) | (go_simp; omega) | (go_simp; assumption) | (go_simp; simp; omega))
      (try simp only [Act.put, List.setIfInBounds_toArray, List.set_cons_zero, List.set_cons_succ])
      refine pl_take (v := .bool false) rfl ?_ ?_
      · (first | (go_simp; done) | (go_simp; with_reducible rfl) | (go_simp; rfl) | (go_simp; omega) | (go_simp; assumption) | (go_simp; simp; omega))
      (try simp only [Act.put, List.setIfInBounds_toArray, List.set_cons_zero, List.set_cons_succ])
      refine pl_done ?_
      refine hK8.out _ _ ?_
      clear hK8 K8
      refine wp_cond_false rfl ?_
      refine wp_skip ?_
      refine hK7.out _ _ ?_
      clear hK7 K7
      refine wk_seq (fun K10 hK10 => ?_)
      refine wk_seq (fun K11 hK11 => ?_)
      refine wk_reg ?_
      refine pl_take (v := ?_) rfl ?_ ?_
      rotate_left
      · (first | (go_simp; done) | (go_simp; with_reducible rfl) | (go_simp; rfl) | (go_simp; omega) | (go_simp; assumption) | (go_simp; simp; omega))
      (try simp only [Act.put, List.setIfInBounds_toArray, List.set_cons_zero, List.set_cons_succ])
      refine pl_eff rfl (fun Kp hKp => ?_)
      go_simp
      ((refine (errnum_spec _).mono ?_); rintro e79 w79 ⟨rfl, rfl⟩)
      (try go_wp2_with fail)
      refine hKp.out _ _ ?_
      clear hKp Kp
      (try simp only [Act.put, List.setIfInBounds_toArray, List.set_cons_zero, List.set_cons_succ])
      refine pl_take (v := .bool false) rfl ?_ ?_
      · (first | (go_simp; done) | (go_simp; with_reducible rfl) | (go_simp; rfl) | (go_simp; omega) | (go_simp; assumption) | (go_simp; simp; omega))
      (try simp only [Act.put, List.setIfInBounds_toArray, List.set_cons_zero, List.set_cons_succ])
      refine pl_done ?_
      refine hK11.out _ _ ?_
      clear hK11 K11
      refine wp_cond_false rfl ?_
      refine wp_skip ?_
      refine hK10.out _ _ ?_
      clear hK10 K10
      refine wk_seq (fun K15 hK15 => ?_)
      refine wk_seq (fun K16 hK16 => ?_)
      refine wk_reg ?_
      refine pl_take (v := ?_) rfl ?_ ?_
      rotate_left
      · (first | (go_simp; done) | (go_simp; with_reducible rfl) | (go_simp; rfl) | (go_simp; omega) | (go_simp; assumption) | (go_simp; simp; omega))
      (try simp only [Act.put, List.setIfInBounds_toArray, List.set_cons_zero, List.set_cons_succ])
      refine pl_eff rfl (fun Kp hKp => ?_)
      go_simp
      ((refine (errnum_spec _).mono ?_); rintro e96 w96 ⟨rfl, rfl⟩)
      (try go_wp2_with fail)
      refine hKp.out _ _ ?_
      clear hKp Kp
      (try simp only [Act.put, List.setIfInBounds_toArray, List.set_cons_zero, List.set_cons_succ])
      refine pl_take (v := .bool true) rfl ?_ ?_
      · (first | (go_simp; done) | (go_simp; with_reducible rfl) | (go_simp; rfl) | (go_simp; omega) | (go_simp; assumption) | (go_simp; simp; omega))
      (try simp only [Act.put, List.setIfInBounds_toArray, List.set_cons_zero, List.set_cons_succ])
      refine pl_done ?_
      refine hK16.out _ _ ?_
      clear hK16 K16
      refine wp_cond_true rfl ?_
      refine wk_seq (fun K17 hK17 => ?_)
      refine wk_reg ?_
      refine pl_take (v := ?_) rfl ?_ ?_
      rotate_left
      · (first | ((with_reducible apply yl_loadAgg); assumption; rfl; (repeat (first | with_reducible exact Out.here _ | apply Out.there)); (simp); rfl; rfl) | ((with_reducible apply yl_loadAggR); assumption; rfl; (repeat (first | with_reducible assumption | with_reducible exact Rd.own | with_reducible exact Rd.nil | with_reducible apply Rd.cons)); rfl))
      (try simp only [Act.put, List.setIfInBounds_toArray, List.set_cons_zero, List.set_cons_succ])
      refine pl_eff rfl (fun Kp hKp => ?_)
      go_simp
      (refine (hP4 _ _ _ _ (by assumption) (by (repeat (first | with_reducible assumption | with_reducible exact Rd.own | with_reducible exact Rd.nil | with_reducible apply Rd.cons)))).mono ?_; rintro e100 w100 ⟨A100, c100, rfl, hs100⟩)
      (try go_wp2_with fail)
      refine hKp.out _ _ ?_
      clear hKp Kp
      (try simp only [Act.put, List.setIfInBounds_toArray, List.set_cons_zero, List.set_cons_succ])
      refine pl_take (v := ?_) rfl ?_ ?_
      rotate_left
      · (first | (go_simp; done) | (go_simp; with_reducible rfl) | (go_simp; rfl) | (go_simp; omega) | (go_simp; assumption) | (go_simp; simp; omega))
      (try simp only [Act.put, List.setIfInBounds_toArray, List.set_cons_zero, List.set_cons_succ])
      refine pl_take (v := ?_) rfl ?_ ?_
      rotate_left
      · (first | (go_simp; done) | (go_simp; with_reducible rfl) | (go_simp; rfl) | (go_simp; omega) | (go_simp; assumption) | (go_simp; simp; omega))
      (try simp only [Act.put, List.setIfInBounds_toArray, List.set_cons_zero, List.set_cons_succ])
      refine pl_take (v := ?_) rfl ?_ ?_
      rotate_left
      · (first | (go_simp; done) | (go_simp; with_reducible rfl) | (go_simp; rfl) | (go_simp; omega) | (go_simp; assumption) | (go_simp; simp; omega))
      (try simp only [Act.put, List.setIfInBounds_toArray, List.set_cons_zero, List.set_cons_succ])
      refine pl_take (v := ?_) rfl ?_ ?_
      rotate_left
      · (first | (go_simp; done) | (go_simp; with_reducible rfl) | (go_simp; rfl) | (go_simp; omega) | (go_simp; assumption) | (go_simp; simp; omega))
      (try simp only [Act.put, List.setIfInBounds_toArray, List.set_cons_zero, List.set_cons_succ])
      refine pl_take (v := ?_) rfl ?_ ?_
      rotate_left
      · (first | (go_simp; done) | (go_simp; with_reducible rfl) | (go_simp; rfl) | (go_simp; omega) | (go_simp; assumption) | (go_simp; simp; omega))
      (try simp only [Act.put, List.setIfInBounds_toArray, List.set_cons_zero, List.set_cons_succ])
      refine pl_done ?_
      refine hK17.out _ _ ?_
      clear hK17 K17
      refine wk_seq (fun K18 hK18 => ?_)
      refine wk_reg ?_
      refine pl_take (v := ?_) rfl ?_ ?_
      rotate_left
      · (first | (go_simp; done) | (go_simp; with_reducible rfl) | (go_simp; rfl) | (go_simp; omega) | (go_simp; assumption) | (go_simp; simp; omega))
      (try simp only [Act.put, List.setIfInBounds_toArray, List.set_cons_zero, List.set_cons_succ])
      refine pl_eff rfl (fun Kp hKp => ?_)
      go_simp
      ((refine (errnum_spec _).mono ?_); rintro e104 w104 ⟨rfl, rfl⟩)
      (try go_wp2_with fail)
      refine hKp.out _ _ ?_
      clear hKp Kp
      (try simp only [Act.put, List.setIfInBounds_toArray, List.set_cons_zero, List.set_cons_succ])
      refine pl_take (v := .bool false) rfl ?_ ?_
      · (first | (go_simp; done) | (go_simp; with_reducible rfl) | (go_simp; rfl) | (go_simp; omega) | (go_simp; assumption) | (go_simp; simp; omega))
      (try simp only [Act.put, List.setIfInBounds_toArray, List.set_cons_zero, List.set_cons_succ])
      refine pl_take (v := .bool false) rfl ?_ ?_
      · (first | (go_simp; done) | (go_simp; with_reducible rfl) | (go_simp; rfl) | (go_simp; omega) | (go_simp; assumption) | (go_simp; simp; omega))
      (try simp only [Act.put, List.setIfInBounds_toArray, List.set_cons_zero, List.set_cons_succ])
      refine pl_take (v := ?_) (by kernel_rfl) ?_ ?_
      rotate_left
      · (first | (go_simp; done) | (go_simp; with_reducible rfl) | (go_simp; rfl) | (go_simp; omega) | (go_simp; assumption) | (go_simp; simp; omega))
      (try simp only [Act.put, List.setIfInBounds_toArray, List.set_cons_zero, List.set_cons_succ])
      refine pl_take (v := ?_) (by kernel_rfl) ?_ ?_
      rotate_left
      · (first | ((with_reducible apply yl_b2s); assumption; rfl; (repeat (first | with_reducible assumption | with_reducible exact Rd.own | with_reducible exact Rd.nil | with_reducible apply Rd.cons)); rfl) | (first | (go_simp; done) | (go_simp; with_reducible rfl) | (go_simp; rfl) | (go_simp; omega) | (go_simp; assumption) | (go_simp; simp; omega)))
      (try simp only [Act.put, List.setIfInBounds_toArray, List.set_cons_zero, List.set_cons_succ])
      refine pl_take (v := ?_) (by kernel_rfl) ?_ ?_
      rotate_left
      · (first | (go_simp; done) | (go_simp; with_reducible rfl) | (go_simp; rfl) | (go_simp; omega) | (go_simp; assumption) | (go_simp; simp; omega))
      (try simp only [Act.put, List.setIfInBounds_toArray, List.set_cons_zero, List.set_cons_succ])
      refine pl_take (v := ?_) (by kernel_rfl) ?_ ?_
      rotate_left
      · (first | ((with_reducible apply yl_b2s); assumption; rfl; (repeat (first | with_reducible assumption | with_reducible exact Rd.own | with_reducible exact Rd.nil | with_reducible apply Rd.cons)); rfl) | (first | (go_simp; done) | (go_simp; with_reducible rfl) | (go_simp; rfl) | (go_simp; omega) | (go_simp; assumption) | (go_simp; simp; omega)))
      (try simp only [Act.put, List.setIfInBounds_toArray, List.set_cons_zero, List.set_cons_succ])
      refine pl_take (v := .bool false) (by kernel_rfl) ?_ ?_
      · (first | (go_simp; done) | (go_simp; with_reducible rfl) | (go_simp; rfl) | (go_simp; omega) | (go_simp; assumption) | (go_simp; simp; omega))
      (try simp only [Act.put, List.setIfInBounds_toArray, List.set_cons_zero, List.set_cons_succ])
      refine pl_take (v := .bool false) rfl ?_ ?_
      · (first | (go_simp; done) | (go_simp; with_reducible rfl) | (go_simp; rfl) | (go_simp; omega) | (go_simp; assumption) | (go_simp; simp; omega))
      (try simp only [Act.put, List.setIfInBounds_toArray, List.set_cons_zero, List.set_cons_succ])
      refine pl_done ?_
      refine hK18.out _ _ ?_
      clear hK18 K18
      refine wp_cond_false rfl ?_
      refine wp_skip ?_
      refine hK15.out _ _ ?_
      clear hK15 K15
      refine wk_seq (fun K20 hK20 => ?_)
      refine wk_reg ?_
      refine pl_eff rfl (fun Kp hKp => ?_)
      go_simp
      ((refine (knows_spec (by assumption)).mono ?_); rintro e113 w113 ⟨rfl, hs113⟩)
      (try go_wp2_with fail)
      refine hKp.out _ _ ?_
      clear hKp Kp
      (try simp only [Act.put, List.setIfInBounds_toArray, List.set_cons_zero, List.set_cons_succ])
      refine pl_take (v := ?_) rfl ?_ ?_
      rotate_left
      · (first | (go_simp; done) | (go_simp; with_reducible rfl) | (go_simp; rfl) | (go_simp; omega) | (go_simp; assumption) | (go_simp; simp; omega))
      (try simp only [Act.put, List.setIfInBounds_toArray, List.set_cons_zero, List.set_cons_succ])
      refine pl_done ?_
      refine hK20.out _ _ ?_
      clear hK20 K20
      refine wp_ret ?_
      go_ret
      exact ⟨rfl, hs113.pick (by (repeat (first | exact Pick.nil _ | exact Pick.tail _ | exact Out.here _ | apply Out.there | apply Pick.cons | apply Pick.drop)))⟩
    · clear hP3
      go_enter Try.func9, Try.ntmps9
      refine wk_seq (fun K0 hK0 => ?_)
      refine wk_reg ?_
      refine pl_eff rfl (fun Kp hKp => ?_)
      ((with_reducible apply st_box); assumption; (go_simp; rfl); intro b2 w2 hs2; simp only [Value.cells] at hs2)
      refine hKp.out _ _ ?_
      clear hKp Kp
      (try simp only [Act.put, List.setIfInBounds_toArray, List.set_cons_zero, List.set_cons_succ])
      refine pl_take (v := .bool false) rfl ?_ ?_
      · (first | (go_simp; done) | (go_simp; with_reducible rfl) | (go_simp; rfl) | (go_simp; omega) | (go_simp; assumption) | (go_simp; simp; omega))
      (try simp only [Act.put, List.setIfInBounds_toArray, List.set_cons_zero, List.set_cons_succ])
      refine pl_done ?_
      refine hK0.out _ _ ?_
      clear hK0 K0
      refine wk_seq (fun K1 hK1 => ?_)
      refine wk_reg ?_
      refine pl_take (v := ?_) rfl ?_ ?_
      rotate_left
      · (first | (go_simp; done) | (go_simp; with_reducible rfl) | (go_simp; rfl) | (go_simp; omega) | (go_simp; assumption) | (go_simp; simp; omega))
      (try simp only [Act.put, List.setIfInBounds_toArray, List.set_cons_zero, List.set_cons_succ])
      refine pl_eff rfl (fun Kp hKp => ?_)
      go_simp
      ((refine (lent_spec bl (by omega) (by assumption) (by (repeat (first | with_reducible assumption | with_reducible exact Rd.own | with_reducible exact Rd.nil | with_reducible apply Rd.cons)))).mono ?_); rintro e20 w20 ⟨g20, c20, rfl, hs20⟩)
      (try go_wp2_with fail)
      refine hKp.out _ _ ?_
      clear hKp Kp
      (try simp only [Act.put, List.setIfInBounds_toArray, List.set_cons_zero, List.set_cons_succ])
      refine pl_take (v := ?_) rfl ?_ ?_
      rotate_left
      · (first | (go_simp; done) | (go_simp; with_reducible rfl) | (go_simp; rfl) | (go_simp; omega) | (go_simp; assumption) | (go_simp; simp; omega))
      (try simp only [Act.put, List.setIfInBounds_toArray, List.set_cons_zero, List.set_cons_succ])
      refine pl_done ?_
      refine hK1.out _ _ ?_
      clear hK1 K1
      refine wk_seq (fun K2 hK2 => ?_)
      refine wk_reg ?_
      refine pl_take (v := ?_) rfl ?_ ?_
      rotate_left
      · (first | ((with_reducible apply yl_loadAgg); assumption; rfl; (repeat (first | with_reducible exact Out.here _ | apply Out.there)); (simp); rfl; rfl) | ((with_reducible apply yl_loadAggR); assumption; rfl; (repeat (first | with_reducible assumption | with_reducible exact Rd.own | with_reducible exact Rd.nil | with_reducible apply Rd.cons)); rfl))
      (try simp only [Act.put, List.setIfInBounds_toArray, List.set_cons_zero, List.set_cons_succ])
      refine pl_eff rfl (fun Kp hKp => ?_)
      go_simp
      ((refine (own_spec (by omega) (by assumption) (by (repeat (first | with_reducible assumption | with_reducible exact Rd.own | with_reducible exact Rd.nil | with_reducible apply Rd.cons)))).mono ?_); rintro e22 w22 ⟨A22, c22, rfl, hs22⟩)
      (try go_wp2_with fail)
      refine hKp.out _ _ ?_
      clear hKp Kp
      (try simp only [Act.put, List.setIfInBounds_toArray, List.set_cons_zero, List.set_cons_succ])
      refine pl_eff rfl (fun Kp hKp => ?_)
      ((with_reducible apply st_alloc); assumption; intro b6 w6 hs6; simp only [Value.cells] at hs6)
      refine hKp.out _ _ ?_
      clear hKp Kp
      (try simp only [Act.put, List.setIfInBounds_toArray, List.set_cons_zero, List.set_cons_succ])
      refine pl_eff rfl (fun Kp hKp => ?_)
      (first | ((with_reducible apply st_storeAll); assumption; rfl; (go_simp; rfl); (repeat (first | with_reducible exact Out.here _ | apply Out.there)); rfl; (focus (first | (simp [Value.oneCell']; done) | (simp [Value.cells, Value.oneCell']; done))); rfl; intro wr2_3 hsr2_3; simp only [Value.cells] at hsr2_3) | ((with_reducible apply st_store); assumption; rfl; (go_simp; rfl); (repeat (first | with_reducible exact Out.here _ | apply Out.there)); rfl; (first | (focus (simp [Value.oneCell']; done)) | (simp [Value.cells, Value.oneCell'])); (first | (focus (simp; done)) | (simp [Value.cells])); intro wr2_3 hsr2_3; simp only [upd, Value.cells] at hsr2_3))
      refine hKp.out _ _ ?_
      clear hKp Kp
      dsimp only [Act.put]
      refine pl_done ?_
      refine hK2.out _ _ ?_
      clear hK2 K2
      refine wk_seq (fun K3 hK3 => ?_)
      refine wk_reg ?_
      refine pl_take (v := ?_) rfl ?_ ?_
      rotate_left
      · (first | ((with_reducible apply yl_loadAgg); assumption; rfl; (repeat (first | with_reducible exact Out.here _ | apply Out.there)); (simp); rfl; rfl) | ((with_reducible apply yl_loadAggR); assumption; rfl; (repeat (first | with_reducible assumption | with_reducible exact Rd.own | with_reducible exact Rd.nil | with_reducible apply Rd.cons)); rfl))
      (try simp only [Act.put, List.setIfInBounds_toArray, List.set_cons_zero, List.set_cons_succ])
      refine pl_eff rfl (fun Kp hKp => ?_)
      go_simp
      ((refine (hP (by assumption) (by (repeat (first | with_reducible assumption | with_reducible exact Rd.own | with_reducible exact Rd.nil | with_reducible apply Rd.cons)))).mono ?_); rintro e25 w25 ⟨A25, c25, rfl, hs25⟩)
      (try go_wp2_with fail)
      refine hKp.out _ _ ?_
      clear hKp Kp
      (try simp only [Act.put, List.setIfInBounds_toArray, List.set_cons_zero, List.set_cons_succ])
      refine pl_take (v := ?_) rfl ?_ ?_
      rotate_left
      · (first | (go_simp; done) | (go_simp; with_reducible rfl) | (go_simp; rfl) | (go_simp; omega) | (go_simp; assumption) | (go_simp; simp; omega))
      (try simp only [Act.put, List.setIfInBounds_toArray, List.set_cons_zero, List.set_cons_succ])
      refine pl_take (v := ?_) rfl ?_ ?_
      rotate_left
      · (first | (go_simp; done) | (go_simp; with_reducible rfl) | (go_simp; rfl) | (go_simp; omega) | (go_simp; assumption) | (go_simp; simp; omega))
      (try simp only [Act.put, List.setIfInBounds_toArray, List.set_cons_zero, List.set_cons_succ])
      refine pl_take (v := ?_) rfl ?_ ?_
      rotate_left
      · (first | (go_simp; done) | (go_simp; with_reducible rfl) | (go_simp; rfl) | (go_simp; omega) | (go_simp; assumption) | (go_simp; simp; omega))
      (try simp only [Act.put, List.setIfInBounds_toArray, List.set_cons_zero, List.set_cons_succ])
      refine pl_take (v := ?_) rfl ?_ ?_
      rotate_left
      · (first | (go_simp; done) | (go_simp; with_reducible rfl) | (go_simp; rfl) | (go_simp; omega) | (go_simp; assumption) | (go_simp; simp; omega))
      (try simp only [Act.put, List.setIfInBounds_toArray, List.set_cons_zero, List.set_cons_succ])
      refine pl_take (v := ?_) rfl ?_ ?_
      rotate_left
      · (first | (go_simp; done) | (go_simp; with_reducible rfl) | (go_simp; rfl) | (go_simp; omega) | (go_simp; assumption) | (go_simp; simp; omega))
      (try simp only [Act.put, List.setIfInBounds_toArray, List.set_cons_zero, List.set_cons_succ])
      refine pl_done ?_
      refine hK3.out _ _ ?_
      clear hK3 K3
      refine wk_seq (fun K4 hK4 => ?_)
      refine wk_reg ?_
      refine pl_take (v := ?_) rfl ?_ ?_
      rotate_left
      · (first | ((with_reducible apply yl_loadAgg); assumption; rfl; (repeat (first | with_reducible exact Out.here _ | apply Out.there)); (simp); rfl; rfl) | ((with_reducible apply yl_loadAggR); assumption; rfl; (repeat (first | with_reducible assumption | with_reducible exact Rd.own | with_reducible exact Rd.nil | with_reducible apply Rd.cons)); rfl))
      (try simp only [Act.put, List.setIfInBounds_toArray, List.set_cons_zero, List.set_cons_succ])
      refine pl_eff rfl (fun Kp hKp => ?_)
      go_simp
      ((refine (hP2 (by assumption) (by (repeat (first | with_reducible assumption | with_reducible exact Rd.own | with_reducible exact Rd.nil | with_reducible apply Rd.cons)))).mono ?_); rintro e30 w30 ⟨A30, c30, rfl, hs30⟩)
      (try go_wp2_with fail)
      refine hKp.out _ _ ?_
      clear hKp Kp
      (try simp only [Act.put, List.setIfInBounds_toArray, List.set_cons_zero, List.set_cons_succ])
      refine pl_take (v := ?_) rfl ?_ ?_
      rotate_left
      · (first | (go_simp; done) | (go_simp; with_reducible rfl) | (go_simp; rfl) | (go_simp; omega) | (go_simp; assumption) | (go_simp; simp; omega))
      (try simp only [Act.put, List.setIfInBounds_toArray, List.set_cons_zero, List.set_cons_succ])
      refine pl_take (v := ?_) rfl ?_ ?_
      rotate_left
      · (first | (go_simp; done) | (go_simp; with_reducible rfl) | (go_simp; rfl) | (go_simp; omega) | (go_simp; assumption) | (go_simp; simp; omega))
      (try simp only [Act.put, List.setIfInBounds_toArray, List.set_cons_zero, List.set_cons_succ])
      refine pl_take (v := ?_) rfl ?_ ?_
      rotate_left
      · (first | (go_simp; done) | (go_simp; with_reducible rfl) | (go_simp; rfl) | (go_simp; omega) | (go_simp; assumption) | (go_simp; simp; omega))
      (try simp only [Act.put, List.setIfInBounds_toArray, List.set_cons_zero, List.set_cons_succ])
      refine pl_take (v := ?_) rfl ?_ ?_
      rotate_left
      · (first | (go_simp; done) | (go_simp; with_reducible rfl) | (go_simp; rfl) | (go_simp; omega) | (go_simp; assumption) | (go_simp; simp; omega))
      (try simp only [Act.put, List.setIfInBounds_toArray, List.set_cons_zero, List.set_cons_succ])
      refine pl_take (v := ?_) rfl ?_ ?_
      rotate_left
      · (first | (go_simp; done) | (go_simp; with_reducible rfl) | (go_simp; rfl) | (go_simp; omega) | (go_simp; assumption) | (go_simp; simp; omega))
      (try simp only [Act.put, List.setIfInBounds_toArray, List.set_cons_zero, List.set_cons_succ])
      refine pl_done ?_
      refine hK4.out _ _ ?_
      clear hK4 K4
      refine wk_seq (fun K5 hK5 => ?_)
      refine wk_reg ?_
      refine pl_take (v := ?_) rfl ?_ ?_
      rotate_left
      · (first | (go_simp; done) | (go_simp; with_reducible rfl) | (go_simp; rfl) | (go_simp; omega) | (go_simp; assumption) | (go_simp; simp; omega))
      (try simp only [Act.put, List.setIfInBounds_toArray, List.set_cons_zero, List.set_cons_succ])
      refine pl_eff rfl (fun Kp hKp => ?_)
      go_simp
      ((refine (hG (by assumption) (by (repeat (first | with_reducible exact Rd.lent bl | with_reducible assumption | with_reducible apply Rd.cons)))).mono ?_); rintro e35 w35 ⟨A35, c35, rfl, hs35⟩)
      (try go_wp2_with fail)
      refine hKp.out _ _ ?_
      clear hKp Kp
      (try simp only [Act.put, List.setIfInBounds_toArray, List.set_cons_zero, List.set_cons_succ])
      refine pl_take (v := ?_) rfl ?_ ?_
      rotate_left
      · (first | (go_simp; done) | (go_simp; with_reducible rfl) | (go_simp; rfl) | (go_simp; omega) | (go_simp; assumption) | (go_simp; simp; omega))
      (try simp only [Act.put, List.setIfInBounds_toArray, List.set_cons_zero, List.set_cons_succ])
      refine pl_take (v := ?_) rfl ?_ ?_
      rotate_left
      · (first | (go_simp; done) | (go_simp; with_reducible rfl) | (go_simp; rfl) | (go_simp; omega) | (go_simp; assumption) | (go_simp; simp; omega))
      (try simp only [Act.put, List.setIfInBounds_toArray, List.set_cons_zero, List.set_cons_succ])
      refine pl_take (v := ?_) rfl ?_ ?_
      rotate_left
      · (first | (go_simp; done) | (go_simp; with_reducible rfl) | (go_simp; rfl) | (go_simp; omega) | (go_simp; assumption) | (go_simp; simp; omega))
      (try simp only [Act.put, List.setIfInBounds_toArray, List.set_cons_zero, List.set_cons_succ])
      refine pl_eff rfl (fun Kp hKp => ?_)
      ((with_reducible apply st_alloc); assumption; intro b11 w11 hs11; simp only [Value.cells] at hs11)
      refine hKp.out _ _ ?_
      clear hKp Kp
      (try simp only [Act.put, List.setIfInBounds_toArray, List.set_cons_zero, List.set_cons_succ])
      refine pl_eff rfl (fun Kp hKp => ?_)
      (first | ((with_reducible apply st_storeAll); assumption; rfl; (go_simp; rfl); (repeat (first | with_reducible exact Out.here _ | apply Out.there)); rfl; (focus (first | (simp [Value.oneCell']; done) | (simp [Value.cells, Value.oneCell']; done))); rfl; intro wr5_6 hsr5_6; simp only [Value.cells] at hsr5_6) | ((with_reducible apply st_store); assumption; rfl; (go_simp; rfl); (repeat (first | with_reducible exact Out.here _ | apply Out.there)); rfl; (first | (focus (simp [Value.oneCell']; done)) | (simp [Value.cells, Value.oneCell'])); (first | (focus (simp; done)) | (simp [Value.cells])); intro wr5_6 hsr5_6; simp only [upd, Value.cells] at hsr5_6))
      refine hKp.out _ _ ?_
      clear hKp Kp
      dsimp only [Act.put]
      refine pl_take (v := ?_) rfl ?_ ?_
      rotate_left
      · (first | (go_simp; done) | (go_simp; with_reducible rfl) | (go_simp; rfl) | (go_simp; omega) | (go_simp; assumption) | (go_simp; simp; omega))
      (try simp only [Act.put, List.setIfInBounds_toArray, List.set_cons_zero, List.set_cons_succ])
      refine pl_done ?_
      refine hK5.out _ _ ?_
      clear hK5 K5
      refine wk_seq (fun K6 hK6 => ?_)
      refine wk_reg ?_
      refine pl_take (v := ?_) rfl ?_ ?_
      rotate_left
      · (first | (go_simp; done) | (go_simp; with_reducible rfl) | (go_simp; rfl) | (go_simp; omega) | (go_simp; assumption) | (go_simp; simp; omega))
      (try simp only [Act.put, List.setIfInBounds_toArray, List.set_cons_zero, List.set_cons_succ])
      refine pl_eff rfl (fun Kp hKp => ?_)
      go_simp
      ((refine (hG2 (by assumption) (by (repeat (first | with_reducible assumption | with_reducible exact Rd.own | with_reducible exact Rd.nil | with_reducible apply Rd.cons)))).mono ?_); rintro e40 w40 ⟨A40, c40, rfl, hs40⟩)
      (try go_wp2_with fail)
      refine hKp.out _ _ ?_
      clear hKp Kp
      (try simp only [Act.put, List.setIfInBounds_toArray, List.set_cons_zero, List.set_cons_succ])
      refine pl_take (v := ?_) rfl ?_ ?_
      rotate_left
      · (first | (go_simp; done) | (go_simp; with_reducible rfl) | (go_simp; rfl) | (go_simp; omega) | (go_simp; assumption) | (go_simp; simp; omega))
      (try simp only [Act.put, List.setIfInBounds_toArray, List.set_cons_zero, List.set_cons_succ])
      refine pl_take (v := ?_) rfl ?_ ?_
      rotate_left
      · (first | (go_simp; done) | (go_simp; with_reducible rfl) | (go_simp; rfl) | (go_simp; omega) | (go_simp; assumption) | (go_simp; simp; omega))
      (try simp only [Act.put, List.setIfInBounds_toArray, List.set_cons_zero, List.set_cons_succ])
      refine pl_take (v := ?_) rfl ?_ ?_
      rotate_left
      · (first | (go_simp; done) | (go_simp; with_reducible rfl) | (go_simp; rfl) | (go_simp; omega) | (go_simp; assumption) | (go_simp; simp; omega))
      (try simp only [Act.put, List.setIfInBounds_toArray, List.set_cons_zero, List.set_cons_succ])
      refine pl_eff rfl (fun Kp hKp => ?_)
      ((with_reducible apply st_alloc); assumption; intro b13 w13 hs13; simp only [Value.cells] at hs13)
      refine hKp.out _ _ ?_
      clear hKp Kp
      (try simp only [Act.put, List.setIfInBounds_toArray, List.set_cons_zero, List.set_cons_succ])
      refine pl_eff rfl (fun Kp hKp => ?_)
      (first | ((with_reducible apply st_storeAll); assumption; rfl; (go_simp; rfl); (repeat (first | with_reducible exact Out.here _ | apply Out.there)); rfl; (focus (first | (simp [Value.oneCell']; done) | (simp [Value.cells, Value.oneCell']; done))); rfl; intro wr6_6 hsr6_6; simp only [Value.cells] at hsr6_6) | ((with_reducible apply st_store); assumption; rfl; (go_simp; rfl); (repeat (first | with_reducible exact Out.here _ | apply Out.there)); rfl; (first | (focus (simp [Value.oneCell']; done)) | (simp [Value.cells, Value.oneCell'])); (first | (focus (simp; done)) | (simp [Value.cells])); intro wr6_6 hsr6_6; simp only [upd, Value.cells] at hsr6_6))
      refine hKp.out _ _ ?_
      clear hKp Kp
      dsimp only [Act.put]
      refine pl_take (v := ?_) rfl ?_ ?_
      rotate_left
      · (first | (go_simp; done) | (go_simp; with_reducible rfl) | (go_simp; rfl) | (go_simp; omega) | (go_simp; assumption) | (go_simp; simp; omega))
      (try simp only [Act.put, List.setIfInBounds_toArray, List.set_cons_zero, List.set_cons_succ])
      refine pl_done ?_
      refine hK6.out _ _ ?_
      clear hK6 K6
      refine wk_seq (fun K7 hK7 => ?_)
      refine wk_seq (fun K8 hK8 => ?_)
      refine wk_reg ?_
      refine pl_take (v := ?_) rfl ?_ ?_
      rotate_left
      · (first | (go_simp; done) | (go_simp; with_reducible rfl) | (go_simp; rfl) | (go_simp; omega) | (go_simp; assumption) | (go_simp; simp; omega))
      (try simp only [Act.put, List.setIfInBounds_toArray, List.set_cons_zero, List.set_cons_succ])
      refine pl_take (v := ?_) rfl ?_ ?_
      rotate_left
      · (first | ((with_reducible apply yl_b2s); assumption; rfl; (repeat (first | with_reducible assumption | with_reducible exact Rd.own | with_reducible exact Rd.nil | with_reducible apply Rd.cons)); rfl) | (first | (go_simp; done) | (go_simp; with_reducible rfl) | (go_simp; rfl) | (go_simp; omega) | (go_simp; assumption) | (go_simp; simp; omega)))
      (try simp only [Act.put, List.setIfInBounds_toArray, List.set_cons_zero, List.set_cons_succ])
      refine pl_take (v := ?_) rfl ?_ ?_
      rotate_left
      · (first | (go_simp; done) | (go_simp; with_reducible rfl) | (go_simp; rfl) | (go_simp; omega) | (go_simp; assumption) | (go_simp; simp; omega))
      (try simp only [Act.put, List.setIfInBounds_toArray, List.set_cons_zero, List.set_cons_succ])
      refine pl_take (v := ?_) rfl ?_ ?_
      rotate_left
      · (first | ((with_reducible apply yl_b2s); assumption; rfl; (repeat (first | with_reducible assumption | with_reducible exact Rd.own | with_reducible exact Rd.nil | with_reducible apply Rd.cons)); rfl) | (first | (go_simp; done) | (go_simp; with_reducible rfl) | (go_simp; rfl) | (go_simp; omega) | (go_simp; assumption) | (go_simp; simp; omega)))
      (try simp only [Act.put, List.setIfInBounds_toArray, List.set_cons_zero, List.set_cons_succ])
      refine pl_take (v := .bool false) rfl ?_ ?_
      · (first | (go_simp; done) | (go_simp; with_reducible rfl) | (go_simp; rfl) | (go_simp; omega) | (go_simp; assumption) | (go_simp; simp; omega))
      (try simp only [Act.put, List.setIfInBounds_toArray, List.set_cons_zero, List.set_cons_succ])
      refine pl_take (v := .bool false) rfl ?_ ?_
      · (first | (go_simp; done) | (go_simp; with_reducible rfl) | (go_simp; rfl) | (go_simp; omega) | (go_simp; assumption) | (go_simp; simp; omega))
      (try simp only [Act.put, List.setIfInBounds_toArray, List.set_cons_zero, List.set_cons_succ])
      refine pl_take (v := ?_) (by kernel_rfl) ?_ ?_
      rotate_left
      · (first | (go_simp; done) | (go_simp; with_reducible rfl) | (go_simp; rfl) | (go_simp; omega) | (go_simp; assumption) | (go_simp; simp; omega))
      (try simp only [Act.put, List.setIfInBounds_toArray, List.set_cons_zero, List.set_cons_succ])
      refine pl_eff (by kernel_rfl) (fun Kp hKp => ?_)
      go_simp
      ((refine (errnum_spec _).mono ?_); rintro e50 w50 ⟨rfl, rfl⟩)
      (try go_wp2_with fail)
      refine hKp.out _ _ ?_
      clear hKp Kp
      (try simp only [Act.put, List.setIfInBounds_toArray, List.set_cons_zero, List.set_cons_succ])
      refine pl_take (v := ?_) (by kernel_rfl) ?_ ?_
      rotate_left
      · (first | (go_simp; done) | (go_simp; with_reducible rfl) | (go_simp; rfl) | (go_simp; omega) | (go_simp; assumption) | (go_simp; simp; omega))
      (try simp only [Act.put, List.setIfInBounds_toArray, List.set_cons_zero, List.set_cons_succ])
      refine pl_take (v := .bool false) (by kernel_rfl) ?_ ?_
      · (first | (go_simp; done) | (go_simp; with_reducible rfl) | (go_simp; rfl) | (go_simp; omega) | (go_simp; assumption) | (go_simp; simp; omega))
      (try simp only [Act.put, List.setIfInBounds_toArray, List.set_cons_zero, List.set_cons_succ])
      refine pl_take (v := .bool false) rfl ?_ ?_
      · (first | (go_simp; done) | (go_simp; with_reducible rfl) | (go_simp; rfl) | (go_simp; omega) | (go_simp; assumption) | (go_simp; simp; omega))
      (try simp only [Act.put, List.setIfInBounds_toArray, List.set_cons_zero, List.set_cons_succ])
      refine pl_take (v := .bool false) rfl ?_ ?_
      · (first | (go_simp; done) | (go_simp; with_reducible rfl) | (go_simp; rfl) | (go_simp; omega) | (go_simp; assumption) | (go_simp; simp; omega))
      (try simp only [Act.put, List.setIfInBounds_toArray, List.set_cons_zero, List.set_cons_succ])
      refine pl_take (v := ?_) (by kernel_rfl) ?_ ?_
      rotate_left
      · (first | ((with_reducible apply yl_loadAgg); assumption; rfl; (repeat (first | with_reducible exact Out.here _ | apply Out.there)); (simp); rfl; rfl) | ((with_reducible apply yl_loadAggR); assumption; rfl; (repeat (first | with_reducible assumption | with_reducible exact Rd.own | with_reducible exact Rd.nil | with_reducible apply Rd.cons)); rfl))
      (try simp only [Act.put, List.setIfInBounds_toArray, List.set_cons_zero, List.set_cons_succ])
      refine pl_take (v := ?_) (by kernel_rfl) ?_ ?_
      rotate_left
      · (first | ((with_reducible apply yl_loadAgg); assumption; rfl; (repeat (first | with_reducible exact Out.here _ | apply Out.there)); (simp); rfl; rfl) | ((with_reducible apply yl_loadAggR); assumption; rfl; (repeat (first | with_reducible assumption | with_reducible exact Rd.own | with_reducible exact Rd.nil | with_reducible apply Rd.cons)); rfl))
      (try simp only [Act.put, List.setIfInBounds_toArray, List.set_cons_zero, List.set_cons_succ])
      refine pl_eff (by kernel_rfl) (fun Kp hKp => ?_)
      go_simp
      ((refine (same_refl (by assumption) (by (repeat (first | with_reducible assumption | with_reducible exact Rd.own | with_reducible exact Rd.nil | with_reducible apply Rd.cons))) (by (repeat (first | with_reducible assumption | with_reducible exact Rd.own | with_reducible exact Rd.nil | with_reducible apply Rd.cons)))).mono ?_); rintro e57 w57 ⟨rfl, hs57⟩)
      (try go_wp2_with fail)
      refine hKp.out _ _ ?_
      clear hKp Kp
      (try simp only [Act.put, List.setIfInBounds_toArray, List.set_cons_zero, List.set_cons_succ])
      refine pl_take (v := .bool false) (by kernel_rfl) ?_ ?_
      · (first | (go_simp; done) | (go_simp; with_reducible rfl) | (go_simp; rfl) | (go_simp; omega) | (go_simp; assumption) | (go_simp; simp; omega))
      (try simp only [Act.put, List.setIfInBounds_toArray, List.set_cons_zero, List.set_cons_succ])
      refine pl_take (v := .bool false) rfl ?_ ?_
      · (first | (go_simp; done) | (go_simp; with_reducible rfl) | (go_simp; rfl) | (go_simp; omega) | (go_simp; assumption) | (go_simp; simp; omega))
      (try simp only [Act.put, List.setIfInBounds_toArray, List.set_cons_zero, List.set_cons_succ])
      refine pl_take (v := .bool false) rfl ?_ ?_
      · (first | (go_simp; done) | (go_simp; with_reducible rfl) | (go_simp; rfl) | (go_simp; omega) | (go_simp; assumption) | (go_simp; simp; omega))
      (try simp only [Act.put, List.setIfInBounds_toArray, List.set_cons_zero, List.set_cons_succ])
      refine pl_take (v := ?_) (by kernel_rfl) ?_ ?_
      rotate_left
      · (first | (go_simp; done) | (go_simp; with_reducible rfl) | (go_simp; rfl) | (go_simp; omega) | (go_simp; assumption) | (go_simp; simp; omega))
      (try simp only [Act.put, List.setIfInBounds_toArray, List.set_cons_zero, List.set_cons_succ])
      refine pl_eff (by kernel_rfl) (fun Kp hKp => ?_)
      go_simp
      ((refine (errnum_spec _).mono ?_); rintro e62 w62 ⟨rfl, rfl⟩)
      (try go_wp2_with fail)
      refine hKp.out _ _ ?_
      clear hKp Kp
      (try simp only [Act.put, List.setIfInBounds_toArray, List.set_cons_zero, List.set_cons_succ])
      refine pl_take (v := ?_) (by kernel_rfl) ?_ ?_
      rotate_left
      · (first | (go_simp; done) | (go_simp; with_reducible rfl) | (go_simp; rfl) | (go_simp; omega) | (go_simp; assumption) | (go_simp; simp; omega))
      (try simp only [Act.put, List.setIfInBounds_toArray, List.set_cons_zero, List.set_cons_succ])
      refine pl_take (v := .bool false) (by kernel_rfl) ?_ ?_
      · (first | (go_simp; done) | (go_simp; with_reducible rfl) | (go_simp; rfl) | (go_simp; omega) | (go_simp; assumption) | (go_simp; simp; omega))
      (try simp only [Act.put, List.setIfInBounds_toArray, List.set_cons_zero, List.set_cons_succ])
      refine pl_take (v := .bool false) rfl ?_ ?_
      · (first | (go_simp; done) | (go_simp; with_reducible rfl) | (go_simp; rfl) | (go_simp; omega) | (go_simp; assumption) | (go_simp; simp; omega))
      (try simp only [Act.put, List.setIfInBounds_toArray, List.set_cons_zero, List.set_cons_succ])
      refine pl_take (v := .bool false) rfl ?_ ?_
      · (first | (go_simp; done) | (go_simp; with_reducible rfl) | (go_simp; rfl) | (go_simp; omega) | (go_simp; assumption) | (go_simp; simp; omega))
      (try simp only [Act.put, List.setIfInBounds_toArray, List.set_cons_zero, List.set_cons_succ])
      refine pl_take (v := ?_) (by kernel_rfl) ?_ ?_
      rotate_left
      · (first | ((with_reducible apply yl_loadAgg); assumption; rfl; (repeat (first | with_reducible exact Out.here _ | apply Out.there)); (simp); rfl; rfl) | ((with_reducible apply yl_loadAggR); assumption; rfl; (repeat (first | with_reducible assumption | with_reducible exact Rd.own | with_reducible exact Rd.nil | with_reducible apply Rd.cons)); rfl))
      (try simp only [Act.put, List.setIfInBounds_toArray, List.set_cons_zero, List.set_cons_succ])
      refine pl_take (v := ?_) (by kernel_rfl) ?_ ?_
      rotate_left
      · (first | ((with_reducible apply yl_loadAgg); assumption; rfl; (repeat (first | with_reducible exact Out.here _ | apply Out.there)); (simp); rfl; rfl) | ((with_reducible apply yl_loadAggR); assumption; rfl; (repeat (first | with_reducible assumption | with_reducible exact Rd.own | with_reducible exact Rd.nil | with_reducible apply Rd.cons)); rfl))
      (try simp only [Act.put, List.setIfInBounds_toArray, List.set_cons_zero, List.set_cons_succ])
      refine pl_eff (by kernel_rfl) (fun Kp hKp => ?_)
      go_simp
      ((refine (same_refl (by assumption) (by (repeat (first | with_reducible assumption | with_reducible exact Rd.own | with_reducible exact Rd.nil | with_reducible apply Rd.cons))) (by (repeat (first | with_reducible assumption | with_reducible exact Rd.own | with_reducible exact Rd.nil | with_reducible apply Rd.cons)))).mono ?_); rintro e69 w69 ⟨rfl, hs69⟩)
      (try go_wp2_with fail)
      refine hKp.out _ _ ?_
      clear hKp Kp
      (try simp only [Act.put, List.setIfInBounds_toArray, List.set_cons_zero, List.set_cons_succ])
      refine pl_take (v := .bool false) (by kernel_rfl) ?_ ?_
      · (first | (go_simp; done) | (go_simp; with_reducible rfl) | (go_simp; rfl) | (go_simp; omega) | (go_simp; assumption) | (go_simp; simp; omega))
      (try simp only [Act.put, List.setIfInBounds_toArray, List.set_cons_zero, List.set_cons_succ])
      refine pl_take (v := .bool false) rfl ?_ ?_
      · (first | (go_simp; done) | (go_simp; with_reducible rfl) | (go_simp; rfl) | (go_simp; omega) | (go_simp; assumption) | (go_simp; simp; omega))
      (try simp only [Act.put, List.setIfInBounds_toArray, List.set_cons_zero, List.set_cons_succ])
      refine pl_take (v := .bool false) rfl ?_ ?_
      · (first | (go_simp; done) | (go_simp; with_reducible rfl) | (go_simp; rfl) | (go_simp; omega) | (go_simp; assumption) | (go_simp; simp; omega))
      (try simp only [Act.put, List.setIfInBounds_toArray, List.set_cons_zero, List.set_cons_succ])
      refine pl_take (v := ?_) (by kernel_rfl) ?_ ?_
      rotate_left
      · (first | (go_simp; done) | (go_simp; with_reducible rfl) | (go_simp; rfl) | (go_simp; omega) | (go_simp; assumption) | (go_simp; simp; omega))
      (try simp only [Act.put, List.setIfInBounds_toArray, List.set_cons_zero, List.set_cons_succ])
      refine pl_take (v := ?_) (by kernel_rfl) ?_ ?_
      rotate_left
      · (first | (go_simp; done) | (go_simp; with_reducible rfl) | (go_simp; rfl) | (go_simp; omega) | (go_simp; assumption) | (go_simp; simp; omega))
      (try simp only [Act.put, List.setIfInBounds_toArray, List.set_cons_zero, List.set_cons_succ])
      refine pl_eff (by kernel_rfl) (fun Kp hKp => ?_)
      go_simp
      ((refine (stays_spec bl (by omega) (by assumption) (by (repeat (first | with_reducible exact Out.here _ | apply Out.there))) (by (repeat (first | with_reducible assumption | with_reducible exact Rd.own | with_reducible exact Rd.nil | with_reducible apply Rd.cons)))).mono ?_); rintro e75 w75 ⟨rfl, hs75⟩)
      (try go_wp2_with fail)
      refine hKp.out _ _ ?_
      clear hKp Kp
      (try simp only [Act.put, List.setIfInBounds_toArray, List.set_cons_zero, List.set_cons_succ])
      refine pl_take (v := .bool false) (by kernel_rfl) ?_ ?_
      · (first | (go_simp; done) | (go_simp; with_reducible rfl) | (go_simp; rfl) | (go_simp; omega) | (go_simp; assumption) | (go_simp; simp; omega))
      (try simp only [Act.put, List.setIfInBounds_toArray, List.set_cons_zero, List.set_cons_succ])
      refine pl_take (v := .bool false) rfl ?_ ?_
      · (first | (go_simp; done) | (go_simp; with_reducible rfl) | (go_simp; rfl) | (go_simp; omega) | (go_simp; assumption) | (go_simp; simp; omega))
      (try simp only [Act.put, List.setIfInBounds_toArray, List.set_cons_zero, List.set_cons_succ])
      refine pl_done ?_
      refine hK8.out _ _ ?_
      clear hK8 K8
      refine wp_cond_false rfl ?_
      refine wp_skip ?_
      refine hK7.out _ _ ?_
      clear hK7 K7
      refine wk_seq (fun K10 hK10 => ?_)
      refine wk_seq (fun K11 hK11 => ?_)
      refine wk_reg ?_
      refine pl_take (v := ?_) rfl ?_ ?_
      rotate_left
      · (first | (go_simp; done) | (go_simp; with_reducible rfl) | (go_simp; rfl) | (go_simp; omega) | (go_simp; assumption) | (go_simp; simp; omega))
      (try simp only [Act.put, List.setIfInBounds_toArray, List.set_cons_zero, List.set_cons_succ])
      refine pl_eff rfl (fun Kp hKp => ?_)
      go_simp
      ((refine (errnum_spec _).mono ?_); rintro e79 w79 ⟨rfl, rfl⟩)
      (try go_wp2_with fail)
      refine hKp.out _ _ ?_
      clear hKp Kp
      (try simp only [Act.put, List.setIfInBounds_toArray, List.set_cons_zero, List.set_cons_succ])
      refine pl_take (v := .bool false) rfl ?_ ?_
      · (first | (go_simp; done) | (go_simp; with_reducible rfl) | (go_simp; rfl) | (go_simp; omega) | (go_simp; assumption) | (go_simp; simp; omega))
      (try simp only [Act.put, List.setIfInBounds_toArray, List.set_cons_zero, List.set_cons_succ])
      refine pl_done ?_
      refine hK11.out _ _ ?_
      clear hK11 K11
      refine wp_cond_false rfl ?_
      refine wp_skip ?_
      refine hK10.out _ _ ?_
      clear hK10 K10
      refine wk_seq (fun K15 hK15 => ?_)
      refine wk_seq (fun K16 hK16 => ?_)
      refine wk_reg ?_
      refine pl_take (v := ?_) rfl ?_ ?_
      rotate_left
      · (first | (go_simp; done) | (go_simp; with_reducible rfl) | (go_simp; rfl) | (go_simp; omega) | (go_simp; assumption) | (go_simp; simp; omega))
      (try simp only [Act.put, List.setIfInBounds_toArray, List.set_cons_zero, List.set_cons_succ])
      refine pl_eff rfl (fun Kp hKp => ?_)
      go_simp
      ((refine (errnum_spec _).mono ?_); rintro e96 w96 ⟨rfl, rfl⟩)
      (try go_wp2_with fail)
      refine hKp.out _ _ ?_
      clear hKp Kp
      (try simp only [Act.put, List.setIfInBounds_toArray, List.set_cons_zero, List.set_cons_succ])
      refine pl_take (v := .bool false) rfl ?_ ?_
      · (first | (go_simp; done) | (go_simp; with_reducible rfl) | (go_simp; rfl) | (go_simp; omega) | (go_simp; assumption) | (go_simp; simp; omega))
      (try simp only [Act.put, List.setIfInBounds_toArray, List.set_cons_zero, List.set_cons_succ])
      refine pl_done ?_
      refine hK16.out _ _ ?_
      clear hK16 K16
      refine wp_cond_false rfl ?_
      refine wp_skip ?_
      refine hK15.out _ _ ?_
      clear hK15 K15
      refine wk_seq (fun K20 hK20 => ?_)
      refine wk_reg ?_
      refine pl_eff rfl (fun Kp hKp => ?_)
      go_simp
      ((refine (knows_spec (by assumption)).mono ?_); rintro e113 w113 ⟨rfl, hs113⟩)
      (try go_wp2_with fail)
      refine hKp.out _ _ ?_
      clear hKp Kp
      (try simp only [Act.put, List.setIfInBounds_toArray, List.set_cons_zero, List.set_cons_succ])
      refine pl_take (v := ?_) rfl ?_ ?_
      rotate_left
      · (first | (go_simp; done) | (go_simp; with_reducible rfl) | (go_simp; rfl) | (go_simp; omega) | (go_simp; assumption) | (go_simp; simp; omega))
      (try simp only [Act.put, List.setIfInBounds_toArray, List.set_cons_zero, List.set_cons_succ])
      refine pl_done ?_
      refine hK20.out _ _ ?_
      clear hK20 K20
      refine wp_ret ?_
      go_ret
      exact ⟨rfl, hs113.pick (by (repeat (first | exact Pick.nil _ | exact Pick.tail _ | exact Out.here _ | apply Out.there | apply Pick.cons | apply Pick.drop)))⟩
end Go.Proofs.Ytaenimnjaekmmaa
