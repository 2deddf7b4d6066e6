/-
  WireApart: the plain law (what is put tells apart) and the walk.
-/
import Derived.Test.YtaenimnjaekmmaaEnt3
import Derived.Test.YtaenimnjaekmmaaWire4
import Derived.Deep.DeepCutAuto
import Derived.Deep.CutRange
namespace Go.Proofs.Ytaenimnjaekmmaa
open Go Go.RowKit Sl Go.Shelf

theorem putNumber_eq {n : Int} {p : List UInt8} {e : Int} (h : putNumber n = (p, e)) : (0 ≤ n ∧ n < 281474976710656 ∧ p = num n.toNat ∧ e = 0) ∨ e = 11 := by
  unfold putNumber at h
  split at h
  · simp only [Prod.mk.injEq] at h; exact .inr h.2.symm
  · simp only [Prod.mk.injEq] at h; exact .inl ⟨by omega, by omega, h.1.symm, h.2.symm⟩

theorem num_inj {m n : Nat} (hm : m < 281474976710656) (hn : n < 281474976710656) (h : num m = num n) : m = n := by
  have h1 := rdNumber_num m hm []
  have h2 := rdNumber_num n hn []
  rw [h, h2] at h1
  simp only [Prod.mk.injEq, and_true] at h1
  omega

theorem beq_of_iff {p q : Prop} [Decidable p] [Decidable q] (h : p ↔ q) : decide p = decide q := by simp [h]

theorem numbers_apart {a b : Int} {p q : List UInt8} (h : putNumber a = (p, 0)) (k : putNumber b = (q, 0)) : (p == q) = (a == b) := by
  rcases putNumber_eq h with ⟨h0, h1, rfl, _⟩ | h0
  · rcases putNumber_eq k with ⟨k0, k1, rfl, _⟩ | k0
    · rw [Bool.eq_iff_iff]
      simp only [beq_iff_eq]
      refine ⟨fun e => ?_, fun e => by rw [e]⟩
      have := num_inj (by omega) (by omega) e
      omega
    · omega
  · omega

theorem entries_apart {x y : Ent} {p q : List UInt8} (h : putEntry x = (p, 0)) (k : putEntry y = (q, 0)) : (p == q) = ((x.t == y.t) && (x.i == y.i) && (x.k == y.k) && (x.d == y.d)) := by
  rcases putEntry_eq h with ⟨h0, rfl, _⟩ | ⟨_, _, h0⟩
  · rcases putEntry_eq k with ⟨k0, rfl, _⟩ | ⟨_, _, k0⟩
    · rw [Bool.eq_iff_iff]
      simp only [beq_iff_eq, Bool.and_eq_true]
      refine ⟨fun e => ?_, fun ⟨⟨⟨e1, e2⟩, e3⟩, e4⟩ => ?_⟩
      · have h1 := getEntry_put h0
        rw [e, getEntry_put k0] at h1
        simp only [Prod.mk.injEq, and_true] at h1
        subst h1; simp
      · obtain ⟨t, i, k, d⟩ := x
        obtain ⟨t', i', k', d'⟩ := y
        simp only at e1 e2 e3 e4
        subst e1 e2 e3 e4; rfl
    · omega
  · omega

theorem putServers_eq {l : List Int} {p : List UInt8} {e : Int} (h : putServers l = (p, e)) : (okServers l = true ∧ p = srvBytes l ∧ e = 0) ∨ e = 1 := by
  unfold putServers at h
  split at h
  · rename_i hr; simp only [Prod.mk.injEq] at h; exact .inl ⟨hr, h.1.symm, h.2.symm⟩
  · simp only [Prod.mk.injEq] at h; exact .inr h.2.symm

theorem servers_read {l : List Int} (h : okServers l = true) : rdNumber 0 (srvBytes l) = ((l.length : Int), 0, (l.map fun n => num n.toNat).flatten) ∧ rdMany l.length 0 ((l.map fun n => num n.toNat).flatten) = (l, 0, []) := by
  obtain ⟨⟨h1, h7⟩, hr⟩ := (okServers_iff l).1 h
  have hb := rise_bounds (by omega) hr
  refine ⟨rdNumber_num l.length (by omega) _, ?_⟩
  have := rdMany_nums l (fun x hx => by have := hb x hx; omega) []
  simpa using this

theorem servers_apart {l m : List Int} {p q : List UInt8} (h : putServers l = (p, 0)) (k : putServers m = (q, 0)) : (p == q) = decide (l = m) := by
  rcases putServers_eq h with ⟨h0, rfl, _⟩ | h0
  · rcases putServers_eq k with ⟨k0, rfl, _⟩ | k0
    · rw [Bool.eq_iff_iff]
      simp only [beq_iff_eq, decide_eq_true_eq]
      refine ⟨fun e => ?_, fun e => by rw [e]⟩
      obtain ⟨h1, h2⟩ := servers_read h0
      obtain ⟨k1, k2⟩ := servers_read k0
      rw [e, k1] at h1
      simp only [Prod.mk.injEq, true_and] at h1
      have e1 : m.length = l.length := by omega
      rw [← h1.2, ← e1, k2] at h2
      simp only [Prod.mk.injEq, and_true] at h2
      exact h2.symm
    · omega
  · omega


set_option maxRecDepth 8000 in
set_option maxHeartbeats 4000000 in
theorem wireApart_walk {w0 w : World} {L : List HP} {A B C D : Option Addr} {c cb n m cc cd : Nat} (a b t i k t' i' k' : Int) (d d' : List UInt8) (xs ys : List Int) (hd : d.length ≤ 1048576) (hd' : d'.length ≤ 1048576)
    (hn : Hid (n = xs.length)) (hm : Hid (m = ys.length)) (hn1 : n ≤ 1048576) (hm1 : m ≤ 1048576)
    (hs : Sat w0 w L) (hA : Rd w0 L A d.length 1 (B8 d)) (hB : Rd w0 L B d'.length 1 (B8 d')) (hC : Rd w0 L C n 1 (I8 xs)) (hD : Rd w0 L D m 1 (I8 ys)) :
    Calls Try.prog 8 #[.int .i64 a, .int .i64 b, .agg #[.int .i64 t, .int .i64 i, .int .i64 k, .slice A d.length c], .agg #[.int .i64 t', .int .i64 i', .int .i64 k', .slice B d'.length cb], .slice C n cc, .slice D m cd] w (RetB w0 L true) := by
  obtain ⟨⟨pa, ea⟩, hpa⟩ : ∃ x, putNumber a = x := ⟨_, rfl⟩
  obtain ⟨⟨pb, eb⟩, hpb⟩ : ∃ x, putNumber b = x := ⟨_, rfl⟩
  obtain ⟨⟨px, ex⟩, hpx⟩ : ∃ x, putEntry ⟨t, i, k, d⟩ = x := ⟨_, rfl⟩
  obtain ⟨⟨py, ey⟩, hpy⟩ : ∃ x, putEntry ⟨t', i', k', d'⟩ = x := ⟨_, rfl⟩
  obtain ⟨⟨ql, fl⟩, hql⟩ : ∃ x, putServers xs = x := ⟨_, rfl⟩
  obtain ⟨⟨qm, fm⟩, hqm⟩ : ∃ x, putServers ys = x := ⟨_, rfl⟩
  have kA := fun (w : World) (L : List HP) (h : Sat w0 w L) => putNumber_spec (w0 := w0) a h
  have kB := fun (w : World) (L : List HP) (h : Sat w0 w L) => putNumber_spec (w0 := w0) b h
  have kX := fun (w : World) (L : List HP) (A : Option Addr) (c : Nat) (h : Sat w0 w L) (hr : Rd w0 L A d.length 1 (B8 d)) => putEntry_spec (w0 := w0) (c := c) ⟨t, i, k, d⟩ (by simp only; omega) h hr
  have kY := fun (w : World) (L : List HP) (A : Option Addr) (c : Nat) (h : Sat w0 w L) (hr : Rd w0 L A d'.length 1 (B8 d')) => putEntry_spec (w0 := w0) (c := c) ⟨t', i', k', d'⟩ (by simp only; omega) h hr
  have kL := fun (w : World) (L : List HP) (A : Option Addr) (c : Nat) (h : Sat w0 w L) (hr : Rd w0 L A n 1 (I8 xs)) => putServers_spec (w0 := w0) (c := c) xs n hn.out (by omega) h hr
  have kM := fun (w : World) (L : List HP) (A : Option Addr) (c : Nat) (h : Sat w0 w L) (hr : Rd w0 L A m 1 (I8 ys)) => putServers_spec (w0 := w0) (c := c) ys m hm.out (by omega) h hr
  have kI := fun (w : World) (L : List HP) (A B : Option Addr) (c d : Nat) (h : Sat w0 w L) (hr : Rd w0 L A n 1 (I8 xs)) (hr' : Rd w0 L B m 1 (I8 ys)) => ints_spec (w0 := w0) (c := c) (d := d) xs ys hn hm (by omega) (by omega) h hr hr'
  have kS := fun (w : World) (L : List HP) (A B : Option Addr) (c c' : Nat) (h : Sat w0 w L) (hr : Rd w0 L A d.length 1 (B8 d)) (hr' : Rd w0 L B d'.length 1 (B8 d')) => same_spec (w0 := w0) (c := c) (c' := c') (t := t) (i := i) (k := k) (t' := t') (i' := i') (k' := k') h hr hr'
  rw [hpa] at kA; rw [hpb] at kB; rw [hpx] at kX; rw [hpy] at kY; rw [hql] at kL; rw [hqm] at kM
  obtain ⟨γ, hγ⟩ : ∃ γ, ((t == t') && (i == i') && (k == k') && (d == d')) = γ := ⟨_, rfl⟩
  obtain ⟨δ, hδ⟩ : ∃ δ, decide (xs = ys) = δ := ⟨_, rfl⟩
  rw [hγ] at kS; rw [hδ] at kI
  have h44 : Hid (ea = 0 → eb = 0 → (pa == pb) = (a == b)) := fun h1 h2 => by subst h1 h2; exact numbers_apart hpa hpb
  have h75 : Hid (ex = 0 → ey = 0 → (px == py) = γ) := fun h1 h2 => by subst h1 h2; rw [entries_apart hpx hpy]; exact hγ
  have h104 : Hid (fl = 0 → fm = 0 → (ql == qm) = δ) := fun h1 h2 => by subst h1 h2; rw [servers_apart hql hqm, hδ]
  clear hpa hpb hpx hpy hql hqm hγ hδ
  go_enter Try.func8, Try.ntmps8
  refine wk_seq (fun K0 hK0 => ?_)
  refine wk_reg ?_
  refine pl_eff rfl (fun Kp hKp => ?_)
  ((with_reducible apply st_box); assumption; (go_simp; rfl); intro b8 w8 hs8; simp only [Value.cells] at hs8)
  refine hKp.out _ _ ?_
  clear hKp Kp
  (try simp only [Act.put, List.setIfInBounds_toArray, List.set_cons_zero, List.set_cons_succ])
  refine pl_eff rfl (fun Kp hKp => ?_)
  ((with_reducible apply st_box); assumption; (go_simp; rfl); intro b9 w9 hs9; simp only [Value.cells] at hs9)
  refine hKp.out _ _ ?_
  clear hKp Kp
  (try simp only [Act.put, List.setIfInBounds_toArray, List.set_cons_zero, List.set_cons_succ])
  refine pl_take (v := .bool false) rfl ?_ ?_
  · (first | (go_simp; done) | (go_simp; with_reducible rfl) | (go_simp; rfl) | (go_simp; omega) | (go_simp; assumption) | (go_simp; simp; omega))
  (try simp only [Act.put, List.setIfInBounds_toArray, List.set_cons_zero, List.set_cons_succ])
  refine pl_done ?_
  refine hK0.out _ _ ?_
  clear hK0 K0
  refine wk_seq (fun K1 hK1 => ?_)
  refine wk_reg ?_
  refine pl_take (v := ?_) rfl ?_ ?_
  rotate_left
  · (first | (go_simp; done) | (go_simp; with_reducible rfl) | (go_simp; rfl) | (go_simp; omega) | (go_simp; assumption) | (go_simp; simp; omega))
  (try simp only [Act.put, List.setIfInBounds_toArray, List.set_cons_zero, List.set_cons_succ])
  refine pl_eff rfl (fun Kp hKp => ?_)
  go_simp
  (refine (kA _ _ (by assumption)).mono ?_; rintro e19 w19 ⟨A19, c19, rfl, hs19⟩)
  (try go_wp2_with fail)
  refine hKp.out _ _ ?_
  clear hKp Kp
  (try simp only [Act.put, List.setIfInBounds_toArray, List.set_cons_zero, List.set_cons_succ])
  refine pl_take (v := ?_) rfl ?_ ?_
  rotate_left
  · (first | (go_simp; done) | (go_simp; with_reducible rfl) | (go_simp; rfl) | (go_simp; omega) | (go_simp; assumption) | (go_simp; simp; omega))
  (try simp only [Act.put, List.setIfInBounds_toArray, List.set_cons_zero, List.set_cons_succ])
  refine pl_take (v := ?_) rfl ?_ ?_
  rotate_left
  · (first | (go_simp; done) | (go_simp; with_reducible rfl) | (go_simp; rfl) | (go_simp; omega) | (go_simp; assumption) | (go_simp; simp; omega))
  (try simp only [Act.put, List.setIfInBounds_toArray, List.set_cons_zero, List.set_cons_succ])
  refine pl_take (v := ?_) rfl ?_ ?_
  rotate_left
  · (first | (go_simp; done) | (go_simp; with_reducible rfl) | (go_simp; rfl) | (go_simp; omega) | (go_simp; assumption) | (go_simp; simp; omega))
  (try simp only [Act.put, List.setIfInBounds_toArray, List.set_cons_zero, List.set_cons_succ])
  refine pl_take (v := ?_) rfl ?_ ?_
  rotate_left
  · (first | (go_simp; done) | (go_simp; with_reducible rfl) | (go_simp; rfl) | (go_simp; omega) | (go_simp; assumption) | (go_simp; simp; omega))
  (try simp only [Act.put, List.setIfInBounds_toArray, List.set_cons_zero, List.set_cons_succ])
  refine pl_take (v := ?_) rfl ?_ ?_
  rotate_left
  · (first | (go_simp; done) | (go_simp; with_reducible rfl) | (go_simp; rfl) | (go_simp; omega) | (go_simp; assumption) | (go_simp; simp; omega))
  (try simp only [Act.put, List.setIfInBounds_toArray, List.set_cons_zero, List.set_cons_succ])
  refine pl_done ?_
  refine hK1.out _ _ ?_
  clear hK1 K1
  refine wk_seq (fun K2 hK2 => ?_)
  refine wk_reg ?_
  refine pl_take (v := ?_) rfl ?_ ?_
  rotate_left
  · (first | (go_simp; done) | (go_simp; with_reducible rfl) | (go_simp; rfl) | (go_simp; omega) | (go_simp; assumption) | (go_simp; simp; omega))
  (try simp only [Act.put, List.setIfInBounds_toArray, List.set_cons_zero, List.set_cons_succ])
  refine pl_eff rfl (fun Kp hKp => ?_)
  go_simp
  (refine (kB _ _ (by assumption)).mono ?_; rintro e24 w24 ⟨A24, c24, rfl, hs24⟩)
  (try go_wp2_with fail)
  refine hKp.out _ _ ?_
  clear hKp Kp
  (try simp only [Act.put, List.setIfInBounds_toArray, List.set_cons_zero, List.set_cons_succ])
  refine pl_take (v := ?_) rfl ?_ ?_
  rotate_left
  · (first | (go_simp; done) | (go_simp; with_reducible rfl) | (go_simp; rfl) | (go_simp; omega) | (go_simp; assumption) | (go_simp; simp; omega))
  (try simp only [Act.put, List.setIfInBounds_toArray, List.set_cons_zero, List.set_cons_succ])
  refine pl_take (v := ?_) rfl ?_ ?_
  rotate_left
  · (first | (go_simp; done) | (go_simp; with_reducible rfl) | (go_simp; rfl) | (go_simp; omega) | (go_simp; assumption) | (go_simp; simp; omega))
  (try simp only [Act.put, List.setIfInBounds_toArray, List.set_cons_zero, List.set_cons_succ])
  refine pl_take (v := ?_) rfl ?_ ?_
  rotate_left
  · (first | (go_simp; done) | (go_simp; with_reducible rfl) | (go_simp; rfl) | (go_simp; omega) | (go_simp; assumption) | (go_simp; simp; omega))
  (try simp only [Act.put, List.setIfInBounds_toArray, List.set_cons_zero, List.set_cons_succ])
  refine pl_take (v := ?_) rfl ?_ ?_
  rotate_left
  · (first | (go_simp; done) | (go_simp; with_reducible rfl) | (go_simp; rfl) | (go_simp; omega) | (go_simp; assumption) | (go_simp; simp; omega))
  (try simp only [Act.put, List.setIfInBounds_toArray, List.set_cons_zero, List.set_cons_succ])
  refine pl_take (v := ?_) rfl ?_ ?_
  rotate_left
  · (first | (go_simp; done) | (go_simp; with_reducible rfl) | (go_simp; rfl) | (go_simp; omega) | (go_simp; assumption) | (go_simp; simp; omega))
  (try simp only [Act.put, List.setIfInBounds_toArray, List.set_cons_zero, List.set_cons_succ])
  refine pl_done ?_
  refine hK2.out _ _ ?_
  clear hK2 K2
  refine wk_seq (fun K3 hK3 => ?_)
  -- at a cut
  go_cut [] from 17 to 45 (fun w => Sat w0 w (blk b9 (.cells #[.int .i64 t', .int .i64 i', .int .i64 k', .slice B d'.length cb] 64 (0, 0)) :: blk b8 (.cells #[.int .i64 t, .int .i64 i, .int .i64 k, .slice A d.length c] 64 (0, 0)) :: L))
  case rest =>
    clear h44 hs24 hs19 hs9 hs8 hs kA kB
    refine hK3.out _ _ ?_
    clear hK3 K3
    refine wk_seq (fun K6 hK6 => ?_)
    refine wk_reg ?_
    refine pl_take (v := ?_) rfl ?_ ?_
    rotate_left
    · (first | ((with_reducible apply yl_loadAgg); assumption; rfl; (repeat (first | with_reducible exact Out.here _ | apply Out.there)); (simp); rfl; rfl) | ((with_reducible apply yl_loadAggR); assumption; rfl; (repeat (first | with_reducible assumption | with_reducible exact Rd.own | with_reducible exact Rd.nil | with_reducible apply Rd.cons)); rfl))
    (try simp only [Act.put, List.setIfInBounds_toArray, List.set_cons_zero, List.set_cons_succ])
    refine pl_eff rfl (fun Kp hKp => ?_)
    go_simp
    ((refine (own_spec (by omega) (by assumption) (by (repeat (first | with_reducible assumption | with_reducible exact Rd.own | with_reducible exact Rd.nil | with_reducible apply Rd.cons)))).mono ?_); rintro e48 w48 ⟨A48, c48, rfl, hs48⟩)
    (try go_wp2_with fail)
    refine hKp.out _ _ ?_
    clear hKp Kp
    (try simp only [Act.put, List.setIfInBounds_toArray, List.set_cons_zero, List.set_cons_succ])
    refine pl_eff rfl (fun Kp hKp => ?_)
    go_simp
    (refine (kX _ _ _ _ (by assumption) (by (repeat (first | with_reducible assumption | with_reducible exact Rd.own | with_reducible exact Rd.nil | with_reducible apply Rd.cons)))).mono ?_; rintro e49 w49 ⟨A49, c49, rfl, hs49⟩)
    (try go_wp2_with fail)
    refine hKp.out _ _ ?_
    clear hKp Kp
    (try simp only [Act.put, List.setIfInBounds_toArray, List.set_cons_zero, List.set_cons_succ])
    refine pl_take (v := ?_) rfl ?_ ?_
    rotate_left
    · (first | (go_simp; done) | (go_simp; with_reducible rfl) | (go_simp; rfl) | (go_simp; omega) | (go_simp; assumption) | (go_simp; simp; omega))
    (try simp only [Act.put, List.setIfInBounds_toArray, List.set_cons_zero, List.set_cons_succ])
    refine pl_take (v := ?_) rfl ?_ ?_
    rotate_left
    · (first | (go_simp; done) | (go_simp; with_reducible rfl) | (go_simp; rfl) | (go_simp; omega) | (go_simp; assumption) | (go_simp; simp; omega))
    (try simp only [Act.put, List.setIfInBounds_toArray, List.set_cons_zero, List.set_cons_succ])
    refine pl_take (v := ?_) rfl ?_ ?_
    rotate_left
    · (first | (go_simp; done) | (go_simp; with_reducible rfl) | (go_simp; rfl) | (go_simp; omega) | (go_simp; assumption) | (go_simp; simp; omega))
    (try simp only [Act.put, List.setIfInBounds_toArray, List.set_cons_zero, List.set_cons_succ])
    refine pl_take (v := ?_) rfl ?_ ?_
    rotate_left
    · (first | (go_simp; done) | (go_simp; with_reducible rfl) | (go_simp; rfl) | (go_simp; omega) | (go_simp; assumption) | (go_simp; simp; omega))
    (try simp only [Act.put, List.setIfInBounds_toArray, List.set_cons_zero, List.set_cons_succ])
    refine pl_take (v := ?_) rfl ?_ ?_
    rotate_left
    · (first | (go_simp; done) | (go_simp; with_reducible rfl) | (go_simp; rfl) | (go_simp; omega) | (go_simp; assumption) | (go_simp; simp; omega))
    (try simp only [Act.put, List.setIfInBounds_toArray, List.set_cons_zero, List.set_cons_succ])
    refine pl_done ?_
    refine hK6.out _ _ ?_
    clear hK6 K6
    refine wk_seq (fun K7 hK7 => ?_)
    refine wk_reg ?_
    refine pl_take (v := ?_) rfl ?_ ?_
    rotate_left
    · (first | ((with_reducible apply yl_loadAgg); assumption; rfl; (repeat (first | with_reducible exact Out.here _ | apply Out.there)); (simp); rfl; rfl) | ((with_reducible apply yl_loadAggR); assumption; rfl; (repeat (first | with_reducible assumption | with_reducible exact Rd.own | with_reducible exact Rd.nil | with_reducible apply Rd.cons)); rfl))
    (try simp only [Act.put, List.setIfInBounds_toArray, List.set_cons_zero, List.set_cons_succ])
    refine pl_eff rfl (fun Kp hKp => ?_)
    go_simp
    ((refine (own_spec (by omega) (by assumption) (by (repeat (first | with_reducible assumption | with_reducible exact Rd.own | with_reducible exact Rd.nil | with_reducible apply Rd.cons)))).mono ?_); rintro e54 w54 ⟨A54, c54, rfl, hs54⟩)
    (try go_wp2_with fail)
    refine hKp.out _ _ ?_
    clear hKp Kp
    (try simp only [Act.put, List.setIfInBounds_toArray, List.set_cons_zero, List.set_cons_succ])
    refine pl_eff rfl (fun Kp hKp => ?_)
    go_simp
    (refine (kY _ _ _ _ (by assumption) (by (repeat (first | with_reducible assumption | with_reducible exact Rd.own | with_reducible exact Rd.nil | with_reducible apply Rd.cons)))).mono ?_; rintro e55 w55 ⟨A55, c55, rfl, hs55⟩)
    (try go_wp2_with fail)
    refine hKp.out _ _ ?_
    clear hKp Kp
    (try simp only [Act.put, List.setIfInBounds_toArray, List.set_cons_zero, List.set_cons_succ])
    refine pl_take (v := ?_) rfl ?_ ?_
    rotate_left
    · (first | (go_simp; done) | (go_simp; with_reducible rfl) | (go_simp; rfl) | (go_simp; omega) | (go_simp; assumption) | (go_simp; simp; omega))
    (try simp only [Act.put, List.setIfInBounds_toArray, List.set_cons_zero, List.set_cons_succ])
    refine pl_take (v := ?_) rfl ?_ ?_
    rotate_left
    · (first | (go_simp; done) | (go_simp; with_reducible rfl) | (go_simp; rfl) | (go_simp; omega) | (go_simp; assumption) | (go_simp; simp; omega))
    (try simp only [Act.put, List.setIfInBounds_toArray, List.set_cons_zero, List.set_cons_succ])
    refine pl_take (v := ?_) rfl ?_ ?_
    rotate_left
    · (first | (go_simp; done) | (go_simp; with_reducible rfl) | (go_simp; rfl) | (go_simp; omega) | (go_simp; assumption) | (go_simp; simp; omega))
    (try simp only [Act.put, List.setIfInBounds_toArray, List.set_cons_zero, List.set_cons_succ])
    refine pl_take (v := ?_) rfl ?_ ?_
    rotate_left
    · (first | (go_simp; done) | (go_simp; with_reducible rfl) | (go_simp; rfl) | (go_simp; omega) | (go_simp; assumption) | (go_simp; simp; omega))
    (try simp only [Act.put, List.setIfInBounds_toArray, List.set_cons_zero, List.set_cons_succ])
    refine pl_take (v := ?_) rfl ?_ ?_
    rotate_left
    · (first | (go_simp; done) | (go_simp; with_reducible rfl) | (go_simp; rfl) | (go_simp; omega) | (go_simp; assumption) | (go_simp; simp; omega))
    (try simp only [Act.put, List.setIfInBounds_toArray, List.set_cons_zero, List.set_cons_succ])
    refine pl_done ?_
    refine hK7.out _ _ ?_
    clear hK7 K7
    refine wk_seq (fun K8 hK8 => ?_)
    -- at a cut
    go_cut [] from 46 to 76 (fun w => Sat w0 w (blk b9 (.cells #[.int .i64 t', .int .i64 i', .int .i64 k', .slice B d'.length cb] 64 (0, 0)) :: blk b8 (.cells #[.int .i64 t, .int .i64 i, .int .i64 k, .slice A d.length c] 64 (0, 0)) :: L))
    case rest =>
      clear h75 hs55 hs49 hs48 hs54 kX kY kS
      by_cases hfl : fl = 0
      · subst hfl
        by_cases hfm : fm = 0
        · subst hfm
          have h := h104.out rfl rfl
          refine hK8.out _ _ ?_
          clear hK8 K8
          refine wk_seq (fun K11 hK11 => ?_)
          refine wk_reg ?_
          refine pl_take (v := ?_) rfl ?_ ?_
          rotate_left
          · (first | (go_simp; done) | (go_simp; with_reducible rfl) | (go_simp; rfl) | (go_simp; omega) | (go_simp; assumption) | (go_simp; simp; omega))
          (try simp only [Act.put, List.setIfInBounds_toArray, List.set_cons_zero, List.set_cons_succ])
          refine pl_eff rfl (fun Kp hKp => ?_)
          go_simp
          (refine (kL _ _ _ _ (by assumption) (by (repeat (first | with_reducible assumption | with_reducible exact Rd.own | with_reducible exact Rd.nil | with_reducible apply Rd.cons)))).mono ?_; rintro e79 w79 ⟨A79, c79, rfl, hs79⟩)
          (try go_wp2_with fail)
          refine hKp.out _ _ ?_
          clear hKp Kp
          (try simp only [Act.put, List.setIfInBounds_toArray, List.set_cons_zero, List.set_cons_succ])
          refine pl_take (v := ?_) rfl ?_ ?_
          rotate_left
          · (first | (go_simp; done) | (go_simp; with_reducible rfl) | (go_simp; rfl) | (go_simp; omega) | (go_simp; assumption) | (go_simp; simp; omega))
          (try simp only [Act.put, List.setIfInBounds_toArray, List.set_cons_zero, List.set_cons_succ])
          refine pl_take (v := ?_) rfl ?_ ?_
          rotate_left
          · (first | (go_simp; done) | (go_simp; with_reducible rfl) | (go_simp; rfl) | (go_simp; omega) | (go_simp; assumption) | (go_simp; simp; omega))
          (try simp only [Act.put, List.setIfInBounds_toArray, List.set_cons_zero, List.set_cons_succ])
          refine pl_take (v := ?_) rfl ?_ ?_
          rotate_left
          · (first | (go_simp; done) | (go_simp; with_reducible rfl) | (go_simp; rfl) | (go_simp; omega) | (go_simp; assumption) | (go_simp; simp; omega))
          (try simp only [Act.put, List.setIfInBounds_toArray, List.set_cons_zero, List.set_cons_succ])
          refine pl_take (v := ?_) rfl ?_ ?_
          rotate_left
          · (first | (go_simp; done) | (go_simp; with_reducible rfl) | (go_simp; rfl) | (go_simp; omega) | (go_simp; assumption) | (go_simp; simp; omega))
          (try simp only [Act.put, List.setIfInBounds_toArray, List.set_cons_zero, List.set_cons_succ])
          refine pl_take (v := ?_) rfl ?_ ?_
          rotate_left
          · (first | (go_simp; done) | (go_simp; with_reducible rfl) | (go_simp; rfl) | (go_simp; omega) | (go_simp; assumption) | (go_simp; simp; omega))
          (try simp only [Act.put, List.setIfInBounds_toArray, List.set_cons_zero, List.set_cons_succ])
          refine pl_done ?_
          refine hK11.out _ _ ?_
          clear hK11 K11
          refine wk_seq (fun K12 hK12 => ?_)
          refine wk_reg ?_
          refine pl_take (v := ?_) rfl ?_ ?_
          rotate_left
          · (first | (go_simp; done) | (go_simp; with_reducible rfl) | (go_simp; rfl) | (go_simp; omega) | (go_simp; assumption) | (go_simp; simp; omega))
          (try simp only [Act.put, List.setIfInBounds_toArray, List.set_cons_zero, List.set_cons_succ])
          refine pl_eff rfl (fun Kp hKp => ?_)
          go_simp
          (refine (kM _ _ _ _ (by assumption) (by (repeat (first | with_reducible assumption | with_reducible exact Rd.own | with_reducible exact Rd.nil | with_reducible apply Rd.cons)))).mono ?_; rintro e84 w84 ⟨A84, c84, rfl, hs84⟩)
          (try go_wp2_with fail)
          refine hKp.out _ _ ?_
          clear hKp Kp
          (try simp only [Act.put, List.setIfInBounds_toArray, List.set_cons_zero, List.set_cons_succ])
          refine pl_take (v := ?_) rfl ?_ ?_
          rotate_left
          · (first | (go_simp; done) | (go_simp; with_reducible rfl) | (go_simp; rfl) | (go_simp; omega) | (go_simp; assumption) | (go_simp; simp; omega))
          (try simp only [Act.put, List.setIfInBounds_toArray, List.set_cons_zero, List.set_cons_succ])
          refine pl_take (v := ?_) rfl ?_ ?_
          rotate_left
          · (first | (go_simp; done) | (go_simp; with_reducible rfl) | (go_simp; rfl) | (go_simp; omega) | (go_simp; assumption) | (go_simp; simp; omega))
          (try simp only [Act.put, List.setIfInBounds_toArray, List.set_cons_zero, List.set_cons_succ])
          refine pl_take (v := ?_) rfl ?_ ?_
          rotate_left
          · (first | (go_simp; done) | (go_simp; with_reducible rfl) | (go_simp; rfl) | (go_simp; omega) | (go_simp; assumption) | (go_simp; simp; omega))
          (try simp only [Act.put, List.setIfInBounds_toArray, List.set_cons_zero, List.set_cons_succ])
          refine pl_take (v := ?_) rfl ?_ ?_
          rotate_left
          · (first | (go_simp; done) | (go_simp; with_reducible rfl) | (go_simp; rfl) | (go_simp; omega) | (go_simp; assumption) | (go_simp; simp; omega))
          (try simp only [Act.put, List.setIfInBounds_toArray, List.set_cons_zero, List.set_cons_succ])
          refine pl_take (v := ?_) rfl ?_ ?_
          rotate_left
          · (first | (go_simp; done) | (go_simp; with_reducible rfl) | (go_simp; rfl) | (go_simp; omega) | (go_simp; assumption) | (go_simp; simp; omega))
          (try simp only [Act.put, List.setIfInBounds_toArray, List.set_cons_zero, List.set_cons_succ])
          refine pl_done ?_
          refine hK12.out _ _ ?_
          clear hK12 K12
          refine wk_seq (fun K13 hK13 => ?_)
          refine rg_start rfl (by assumption) (fun wr11 hsr11 => ?_)
          refine rg_take (i := 0) (v := ?_) rfl (by kernel_rfl) (by kernel_rfl) (by kernel_rfl) (fun _ _ _ h => h) rfl (by assumption) ?_ ?_
          rotate_left
          · intro w hSw; (first | (go_simp; done) | (go_simp; with_reducible rfl) | (go_simp; rfl) | (go_simp; omega) | (go_simp; assumption) | (go_simp; simp; omega))
          (try simp only [Act.put, List.setIfInBounds_toArray, List.set_cons_zero, List.set_cons_succ])
          refine rg_one (i := 1) (by kernel_rfl) rfl rfl (fun Kp hKp => ?_)
          go_simp
          ((refine (errnum_spec _).mono ?_); rintro e88 w88 ⟨rfl, rfl⟩)
          (try go_wp2_with fail)
          refine rg_back (hK := hKp) ?_ (fun hsk88 => ?_)
          · (first | assumption | (apply Sat.drew; assumption) | (apply Sat.pick; assumption; (repeat (first | exact Pick.nil _ | with_reducible exact Pick.tail _ | with_reducible exact Out.here _ | apply Out.there | apply Pick.cons | apply Pick.drop))))
          clear hKp Kp
          (try simp only [Act.put, List.setIfInBounds_toArray, List.set_cons_zero, List.set_cons_succ])
          refine rg_take (i := 2) (v := .bool false) rfl (by kernel_rfl) (by kernel_rfl) (by kernel_rfl) (fun _ _ _ h => h) rfl (by assumption) ?_ ?_
          · intro w hSw; (first | (go_simp; done) | (go_simp; with_reducible rfl) | (go_simp; rfl) | (go_simp; omega) | (go_simp; assumption) | (go_simp; simp; omega))
          (try simp only [Act.put, List.setIfInBounds_toArray, List.set_cons_zero, List.set_cons_succ])
          refine rg_take (i := 3) (v := .bool false) rfl (by kernel_rfl) (by kernel_rfl) (by kernel_rfl) (fun _ _ _ h => h) rfl (by assumption) ?_ ?_
          · intro w hSw; (first | (go_simp; done) | (go_simp; with_reducible rfl) | (go_simp; rfl) | (go_simp; omega) | (go_simp; assumption) | (go_simp; simp; omega))
          (try simp only [Act.put, List.setIfInBounds_toArray, List.set_cons_zero, List.set_cons_succ])
          refine rg_take (i := 4) (v := ?_) rfl (by kernel_rfl) (by kernel_rfl) (by kernel_rfl) (fun _ _ _ h => h) (by kernel_rfl) (by assumption) ?_ ?_
          rotate_left
          · intro w hSw; (first | (go_simp; done) | (go_simp; with_reducible rfl) | (go_simp; rfl) | (go_simp; omega) | (go_simp; assumption) | (go_simp; simp; omega))
          (try simp only [Act.put, List.setIfInBounds_toArray, List.set_cons_zero, List.set_cons_succ])
          refine rg_one (i := 5) (by kernel_rfl) rfl (by kernel_rfl) (fun Kp hKp => ?_)
          go_simp
          ((refine (errnum_spec _).mono ?_); rintro e92 w92 ⟨rfl, rfl⟩)
          (try go_wp2_with fail)
          refine rg_back (hK := hKp) ?_ (fun hsk92 => ?_)
          · (first | assumption | (apply Sat.drew; assumption) | (apply Sat.pick; assumption; (repeat (first | exact Pick.nil _ | with_reducible exact Pick.tail _ | with_reducible exact Out.here _ | apply Out.there | apply Pick.cons | apply Pick.drop))))
          clear hKp Kp
          (try simp only [Act.put, List.setIfInBounds_toArray, List.set_cons_zero, List.set_cons_succ])
          refine rg_take (i := 6) (v := .bool false) rfl (by kernel_rfl) (by kernel_rfl) (by kernel_rfl) (fun _ _ _ h => h) (by kernel_rfl) (by assumption) ?_ ?_
          · intro w hSw; (first | (go_simp; done) | (go_simp; with_reducible rfl) | (go_simp; rfl) | (go_simp; omega) | (go_simp; assumption) | (go_simp; simp; omega))
          (try simp only [Act.put, List.setIfInBounds_toArray, List.set_cons_zero, List.set_cons_succ])
          refine rg_take (i := 7) (v := .bool false) rfl (by kernel_rfl) (by kernel_rfl) (by kernel_rfl) (fun _ _ _ h => h) rfl (by assumption) ?_ ?_
          · intro w hSw; (first | (go_simp; done) | (go_simp; with_reducible rfl) | (go_simp; rfl) | (go_simp; omega) | (go_simp; assumption) | (go_simp; simp; omega))
          (try simp only [Act.put, List.setIfInBounds_toArray, List.set_cons_zero, List.set_cons_succ])
          refine rg_take (i := 8) (v := .bool false) rfl (by kernel_rfl) (by kernel_rfl) (by kernel_rfl) (fun _ _ _ h => h) rfl (by assumption) ?_ ?_
          · intro w hSw; (first | (go_simp; done) | (go_simp; with_reducible rfl) | (go_simp; rfl) | (go_simp; omega) | (go_simp; assumption) | (go_simp; simp; omega))
          (try simp only [Act.put, List.setIfInBounds_toArray, List.set_cons_zero, List.set_cons_succ])
          refine rg_take (i := 9) (v := ?_) rfl (by kernel_rfl) (by kernel_rfl) (by kernel_rfl) (fun _ _ _ h => h) (by kernel_rfl) (by assumption) ?_ ?_
          rotate_left
          · intro w hSw; (first | (go_simp; done) | (go_simp; with_reducible rfl) | (go_simp; rfl) | (go_simp; omega) | (go_simp; assumption) | (go_simp; simp; omega))
          (try simp only [Act.put, List.setIfInBounds_toArray, List.set_cons_zero, List.set_cons_succ])
          refine rg_take (i := 10) (v := ?_) rfl (by kernel_rfl) (by kernel_rfl) (by kernel_rfl) (fun _ _ _ h => h) (by kernel_rfl) (by assumption) ?_ ?_
          rotate_left
          · intro w hSw; (first | ((with_reducible apply yl_b2s); assumption; rfl; (repeat (first | with_reducible assumption | with_reducible exact Rd.own | with_reducible exact Rd.nil | with_reducible apply Rd.cons)); rfl) | (first | (go_simp; done) | (go_simp; with_reducible rfl) | (go_simp; rfl) | (go_simp; omega) | (go_simp; assumption) | (go_simp; simp; omega)))
          (try simp only [Act.put, List.setIfInBounds_toArray, List.set_cons_zero, List.set_cons_succ])
          refine rg_take (i := 11) (v := ?_) rfl (by kernel_rfl) (by kernel_rfl) (by kernel_rfl) (fun _ _ _ h => h) (by kernel_rfl) (by assumption) ?_ ?_
          rotate_left
          · intro w hSw; (first | (go_simp; done) | (go_simp; with_reducible rfl) | (go_simp; rfl) | (go_simp; omega) | (go_simp; assumption) | (go_simp; simp; omega))
          (try simp only [Act.put, List.setIfInBounds_toArray, List.set_cons_zero, List.set_cons_succ])
          refine rg_take (i := 12) (v := ?_) rfl (by kernel_rfl) (by kernel_rfl) (by kernel_rfl) (fun _ _ _ h => h) (by kernel_rfl) (by assumption) ?_ ?_
          rotate_left
          · intro w hSw; (first | ((with_reducible apply yl_b2s); assumption; rfl; (repeat (first | with_reducible assumption | with_reducible exact Rd.own | with_reducible exact Rd.nil | with_reducible apply Rd.cons)); rfl) | (first | (go_simp; done) | (go_simp; with_reducible rfl) | (go_simp; rfl) | (go_simp; omega) | (go_simp; assumption) | (go_simp; simp; omega)))
          (try simp only [Act.put, List.setIfInBounds_toArray, List.set_cons_zero, List.set_cons_succ])
          refine rg_take (i := 13) (v := ?_) rfl (by kernel_rfl) (by kernel_rfl) (by kernel_rfl) (fun _ _ _ h => h) (by kernel_rfl) (by assumption) ?_ ?_
          rotate_left
          · intro w hSw; (first | (go_simp; done) | (go_simp; with_reducible rfl) | (go_simp; rfl) | (go_simp; omega) | (go_simp; assumption) | (go_simp; simp; omega))
          (try simp only [Act.put, List.setIfInBounds_toArray, List.set_cons_zero, List.set_cons_succ])
          refine rg_take (i := 14) (v := ?_) rfl (by kernel_rfl) (by kernel_rfl) (by kernel_rfl) (fun _ _ _ h => h) (by kernel_rfl) (by assumption) ?_ ?_
          rotate_left
          · intro w hSw; (first | (go_simp; done) | (go_simp; with_reducible rfl) | (go_simp; rfl) | (go_simp; omega) | (go_simp; assumption) | (go_simp; simp; omega))
          (try simp only [Act.put, List.setIfInBounds_toArray, List.set_cons_zero, List.set_cons_succ])
          refine rg_take (i := 15) (v := ?_) rfl (by kernel_rfl) (by kernel_rfl) (by kernel_rfl) (fun _ _ _ h => h) (by kernel_rfl) (by assumption) ?_ ?_
          rotate_left
          · intro w hSw; (first | (go_simp; done) | (go_simp; with_reducible rfl) | (go_simp; rfl) | (go_simp; omega) | (go_simp; assumption) | (go_simp; simp; omega))
          (try simp only [Act.put, List.setIfInBounds_toArray, List.set_cons_zero, List.set_cons_succ])
          refine rg_one (i := 16) (by kernel_rfl) rfl (by kernel_rfl) (fun Kp hKp => ?_)
          go_simp
          (refine (kI _ _ _ _ _ _ (by assumption) (by (repeat (first | with_reducible assumption | with_reducible exact Rd.own | with_reducible exact Rd.nil | with_reducible apply Rd.cons))) (by (repeat (first | with_reducible assumption | with_reducible exact Rd.own | with_reducible exact Rd.nil | with_reducible apply Rd.cons)))).mono ?_; rintro e103 w103 ⟨rfl, hs103⟩)
          (try go_wp2_with fail)
          refine rg_back (hK := hKp) ?_ (fun hsk103 => ?_)
          · (first | assumption | (apply Sat.drew; assumption) | (apply Sat.pick; assumption; (repeat (first | exact Pick.nil _ | with_reducible exact Pick.tail _ | with_reducible exact Out.here _ | apply Out.there | apply Pick.cons | apply Pick.drop))))
          clear hKp Kp
          have hsz103 := hs103
          (try simp only [Act.put, List.setIfInBounds_toArray, List.set_cons_zero, List.set_cons_succ])
          refine rg_take (i := 17) (v := .bool true) rfl (by kernel_rfl) (by kernel_rfl) (by kernel_rfl) (fun _ _ _ h => h) (by kernel_rfl) (by assumption) ?_ ?_
          · intro w hSw; (first | (go_simp; done) | (go_simp; with_reducible rfl) | (go_simp; rfl) | (go_simp; omega) | (go_simp; assumption) | (go_simp; simp; omega))
          (try simp only [Act.put, List.setIfInBounds_toArray, List.set_cons_zero, List.set_cons_succ])
          refine rg_take (i := 18) (v := .bool true) rfl (by kernel_rfl) (by kernel_rfl) (by kernel_rfl) (fun _ _ _ h => h) rfl (by assumption) ?_ ?_
          · intro w hSw; (first | (go_simp; done) | (go_simp; with_reducible rfl) | (go_simp; rfl) | (go_simp; omega) | (go_simp; assumption) | (go_simp; simp; omega))
          (try simp only [Act.put, List.setIfInBounds_toArray, List.set_cons_zero, List.set_cons_succ])
          refine rg_take (i := 19) (v := .bool true) rfl (by kernel_rfl) (by kernel_rfl) (by kernel_rfl) (fun _ _ _ h => h) rfl (by assumption) ?_ ?_
          · intro w hSw; (first | (go_simp; done) | (go_simp; with_reducible rfl) | (go_simp; rfl) | (go_simp; omega) | (go_simp; assumption) | (go_simp; simp; omega))
          (try simp only [Act.put, List.setIfInBounds_toArray, List.set_cons_zero, List.set_cons_succ])
          refine rg_one (i := 20) (by kernel_rfl) rfl (by kernel_rfl) (fun Kp hKp => ?_)
          go_simp
          ((refine (knows_spec (by assumption)).mono ?_); rintro e107 w107 ⟨rfl, hs107⟩)
          (try go_wp2_with fail)
          refine rg_back (hK := hKp) ?_ (fun hsk107 => ?_)
          · (first | assumption | (apply Sat.drew; assumption) | (apply Sat.pick; assumption; (repeat (first | exact Pick.nil _ | with_reducible exact Pick.tail _ | with_reducible exact Out.here _ | apply Out.there | apply Pick.cons | apply Pick.drop))))
          clear hKp Kp
          have hsz107 := hs107
          (try simp only [Act.put, List.setIfInBounds_toArray, List.set_cons_zero, List.set_cons_succ])
          refine rg_take (i := 21) (v := .bool true) rfl (by kernel_rfl) (by kernel_rfl) (by kernel_rfl) (fun _ _ _ h => h) rfl (by assumption) ?_ ?_
          · intro w hSw; (first | (go_simp; done) | (go_simp; with_reducible rfl) | (go_simp; rfl) | (go_simp; omega) | (go_simp; assumption) | (go_simp; simp; omega))
          (try simp only [Act.put, List.setIfInBounds_toArray, List.set_cons_zero, List.set_cons_succ])
          refine rg_take (i := 22) (v := .bool true) rfl (by kernel_rfl) (by kernel_rfl) (by kernel_rfl) (fun _ _ _ h => h) rfl (by assumption) ?_ ?_
          · intro w hSw; (first | (go_simp; done) | (go_simp; with_reducible rfl) | (go_simp; rfl) | (go_simp; omega) | (go_simp; assumption) | (go_simp; simp; omega))
          (try simp only [Act.put, List.setIfInBounds_toArray, List.set_cons_zero, List.set_cons_succ])
          refine rg_done (by kernel_rfl) ?_
          refine hK13.out _ _ ?_
          clear hK13 K13
          refine wp_ret ?_
          go_ret
          exact ⟨rfl, hs107.pick (by (repeat (first | exact Pick.nil _ | exact Pick.tail _ | exact Out.here _ | apply Out.there | apply Pick.cons | apply Pick.drop)))⟩
        · have hfm1 : (fm != 0) = true := by simp [hfm]
          clear hfm
          refine hK8.out _ _ ?_
          clear hK8 K8
          refine wk_seq (fun K11 hK11 => ?_)
          refine wk_reg ?_
          refine pl_take (v := ?_) rfl ?_ ?_
          rotate_left
          · (first | (go_simp; done) | (go_simp; with_reducible rfl) | (go_simp; rfl) | (go_simp; omega) | (go_simp; assumption) | (go_simp; simp; omega))
          (try simp only [Act.put, List.setIfInBounds_toArray, List.set_cons_zero, List.set_cons_succ])
          refine pl_eff rfl (fun Kp hKp => ?_)
          go_simp
          (refine (kL _ _ _ _ (by assumption) (by (repeat (first | with_reducible assumption | with_reducible exact Rd.own | with_reducible exact Rd.nil | with_reducible apply Rd.cons)))).mono ?_; rintro e79 w79 ⟨A79, c79, rfl, hs79⟩)
          (try go_wp2_with fail)
          refine hKp.out _ _ ?_
          clear hKp Kp
          (try simp only [Act.put, List.setIfInBounds_toArray, List.set_cons_zero, List.set_cons_succ])
          refine pl_take (v := ?_) rfl ?_ ?_
          rotate_left
          · (first | (go_simp; done) | (go_simp; with_reducible rfl) | (go_simp; rfl) | (go_simp; omega) | (go_simp; assumption) | (go_simp; simp; omega))
          (try simp only [Act.put, List.setIfInBounds_toArray, List.set_cons_zero, List.set_cons_succ])
          refine pl_take (v := ?_) rfl ?_ ?_
          rotate_left
          · (first | (go_simp; done) | (go_simp; with_reducible rfl) | (go_simp; rfl) | (go_simp; omega) | (go_simp; assumption) | (go_simp; simp; omega))
          (try simp only [Act.put, List.setIfInBounds_toArray, List.set_cons_zero, List.set_cons_succ])
          refine pl_take (v := ?_) rfl ?_ ?_
          rotate_left
          · (first | (go_simp; done) | (go_simp; with_reducible rfl) | (go_simp; rfl) | (go_simp; omega) | (go_simp; assumption) | (go_simp; simp; omega))
          (try simp only [Act.put, List.setIfInBounds_toArray, List.set_cons_zero, List.set_cons_succ])
          refine pl_take (v := ?_) rfl ?_ ?_
          rotate_left
          · (first | (go_simp; done) | (go_simp; with_reducible rfl) | (go_simp; rfl) | (go_simp; omega) | (go_simp; assumption) | (go_simp; simp; omega))
          (try simp only [Act.put, List.setIfInBounds_toArray, List.set_cons_zero, List.set_cons_succ])
          refine pl_take (v := ?_) rfl ?_ ?_
          rotate_left
          · (first | (go_simp; done) | (go_simp; with_reducible rfl) | (go_simp; rfl) | (go_simp; omega) | (go_simp; assumption) | (go_simp; simp; omega))
          (try simp only [Act.put, List.setIfInBounds_toArray, List.set_cons_zero, List.set_cons_succ])
          refine pl_done ?_
          refine hK11.out _ _ ?_
          clear hK11 K11
          refine wk_seq (fun K12 hK12 => ?_)
          refine wk_reg ?_
          refine pl_take (v := ?_) rfl ?_ ?_
          rotate_left
          · (first | (go_simp; done) | (go_simp; with_reducible rfl) | (go_simp; rfl) | (go_simp; omega) | (go_simp; assumption) | (go_simp; simp; omega))
          (try simp only [Act.put, List.setIfInBounds_toArray, List.set_cons_zero, List.set_cons_succ])
          refine pl_eff rfl (fun Kp hKp => ?_)
          go_simp
          (refine (kM _ _ _ _ (by assumption) (by (repeat (first | with_reducible assumption | with_reducible exact Rd.own | with_reducible exact Rd.nil | with_reducible apply Rd.cons)))).mono ?_; rintro e84 w84 ⟨A84, c84, rfl, hs84⟩)
          (try go_wp2_with fail)
          refine hKp.out _ _ ?_
          clear hKp Kp
          (try simp only [Act.put, List.setIfInBounds_toArray, List.set_cons_zero, List.set_cons_succ])
          refine pl_take (v := ?_) rfl ?_ ?_
          rotate_left
          · (first | (go_simp; done) | (go_simp; with_reducible rfl) | (go_simp; rfl) | (go_simp; omega) | (go_simp; assumption) | (go_simp; simp; omega))
          (try simp only [Act.put, List.setIfInBounds_toArray, List.set_cons_zero, List.set_cons_succ])
          refine pl_take (v := ?_) rfl ?_ ?_
          rotate_left
          · (first | (go_simp; done) | (go_simp; with_reducible rfl) | (go_simp; rfl) | (go_simp; omega) | (go_simp; assumption) | (go_simp; simp; omega))
          (try simp only [Act.put, List.setIfInBounds_toArray, List.set_cons_zero, List.set_cons_succ])
          refine pl_take (v := ?_) rfl ?_ ?_
          rotate_left
          · (first | (go_simp; done) | (go_simp; with_reducible rfl) | (go_simp; rfl) | (go_simp; omega) | (go_simp; assumption) | (go_simp; simp; omega))
          (try simp only [Act.put, List.setIfInBounds_toArray, List.set_cons_zero, List.set_cons_succ])
          refine pl_take (v := ?_) rfl ?_ ?_
          rotate_left
          · (first | (go_simp; done) | (go_simp; with_reducible rfl) | (go_simp; rfl) | (go_simp; omega) | (go_simp; assumption) | (go_simp; simp; omega))
          (try simp only [Act.put, List.setIfInBounds_toArray, List.set_cons_zero, List.set_cons_succ])
          refine pl_take (v := ?_) rfl ?_ ?_
          rotate_left
          · (first | (go_simp; done) | (go_simp; with_reducible rfl) | (go_simp; rfl) | (go_simp; omega) | (go_simp; assumption) | (go_simp; simp; omega))
          (try simp only [Act.put, List.setIfInBounds_toArray, List.set_cons_zero, List.set_cons_succ])
          refine pl_done ?_
          refine hK12.out _ _ ?_
          clear hK12 K12
          refine wk_seq (fun K13 hK13 => ?_)
          refine rg_start rfl (by assumption) (fun wr11 hsr11 => ?_)
          refine rg_take (i := 0) (v := ?_) rfl (by kernel_rfl) (by kernel_rfl) (by kernel_rfl) (fun _ _ _ h => h) rfl (by assumption) ?_ ?_
          rotate_left
          · intro w hSw; (first | (go_simp; done) | (go_simp; with_reducible rfl) | (go_simp; rfl) | (go_simp; omega) | (go_simp; assumption) | (go_simp; simp; omega))
          (try simp only [Act.put, List.setIfInBounds_toArray, List.set_cons_zero, List.set_cons_succ])
          refine rg_one (i := 1) (by kernel_rfl) rfl rfl (fun Kp hKp => ?_)
          go_simp
          ((refine (errnum_spec _).mono ?_); rintro e88 w88 ⟨rfl, rfl⟩)
          (try go_wp2_with fail)
          refine rg_back (hK := hKp) ?_ (fun hsk88 => ?_)
          · (first | assumption | (apply Sat.drew; assumption) | (apply Sat.pick; assumption; (repeat (first | exact Pick.nil _ | with_reducible exact Pick.tail _ | with_reducible exact Out.here _ | apply Out.there | apply Pick.cons | apply Pick.drop))))
          clear hKp Kp
          (try simp only [Act.put, List.setIfInBounds_toArray, List.set_cons_zero, List.set_cons_succ])
          refine rg_take (i := 2) (v := .bool false) rfl (by kernel_rfl) (by kernel_rfl) (by kernel_rfl) (fun _ _ _ h => h) rfl (by assumption) ?_ ?_
          · intro w hSw; (first | (go_simp; done) | (go_simp; with_reducible rfl) | (go_simp; rfl) | (go_simp; omega) | (go_simp; assumption) | (go_simp; simp; omega))
          (try simp only [Act.put, List.setIfInBounds_toArray, List.set_cons_zero, List.set_cons_succ])
          refine rg_take (i := 3) (v := .bool false) rfl (by kernel_rfl) (by kernel_rfl) (by kernel_rfl) (fun _ _ _ h => h) rfl (by assumption) ?_ ?_
          · intro w hSw; (first | (go_simp; done) | (go_simp; with_reducible rfl) | (go_simp; rfl) | (go_simp; omega) | (go_simp; assumption) | (go_simp; simp; omega))
          (try simp only [Act.put, List.setIfInBounds_toArray, List.set_cons_zero, List.set_cons_succ])
          refine rg_take (i := 4) (v := ?_) rfl (by kernel_rfl) (by kernel_rfl) (by kernel_rfl) (fun _ _ _ h => h) (by kernel_rfl) (by assumption) ?_ ?_
          rotate_left
          · intro w hSw; (first | (go_simp; done) | (go_simp; with_reducible rfl) | (go_simp; rfl) | (go_simp; omega) | (go_simp; assumption) | (go_simp; simp; omega))
          (try simp only [Act.put, List.setIfInBounds_toArray, List.set_cons_zero, List.set_cons_succ])
          refine rg_one (i := 5) (by kernel_rfl) rfl (by kernel_rfl) (fun Kp hKp => ?_)
          go_simp
          ((refine (errnum_spec _).mono ?_); rintro e92 w92 ⟨rfl, rfl⟩)
          (try go_wp2_with fail)
          refine rg_back (hK := hKp) ?_ (fun hsk92 => ?_)
          · (first | assumption | (apply Sat.drew; assumption) | (apply Sat.pick; assumption; (repeat (first | exact Pick.nil _ | with_reducible exact Pick.tail _ | with_reducible exact Out.here _ | apply Out.there | apply Pick.cons | apply Pick.drop))))
          clear hKp Kp
          (try simp only [Act.put, List.setIfInBounds_toArray, List.set_cons_zero, List.set_cons_succ])
          refine rg_take (i := 6) (v := .bool true) rfl (by kernel_rfl) (by kernel_rfl) (by kernel_rfl) (fun _ _ _ h => h) (by kernel_rfl) (by assumption) ?_ ?_
          · intro w hSw; (first | (go_simp; done) | (go_simp; with_reducible rfl) | (go_simp; rfl) | (go_simp; omega) | (go_simp; assumption) | (go_simp; simp; omega))
          (try simp only [Act.put, List.setIfInBounds_toArray, List.set_cons_zero, List.set_cons_succ])
          refine rg_take (i := 7) (v := .bool true) rfl (by kernel_rfl) (by kernel_rfl) (by kernel_rfl) (fun _ _ _ h => h) rfl (by assumption) ?_ ?_
          · intro w hSw; (first | (go_simp; done) | (go_simp; with_reducible rfl) | (go_simp; rfl) | (go_simp; omega) | (go_simp; assumption) | (go_simp; simp; omega))
          (try simp only [Act.put, List.setIfInBounds_toArray, List.set_cons_zero, List.set_cons_succ])
          refine rg_take (i := 8) (v := .bool true) rfl (by kernel_rfl) (by kernel_rfl) (by kernel_rfl) (fun _ _ _ h => h) rfl (by assumption) ?_ ?_
          · intro w hSw; (first | (go_simp; done) | (go_simp; with_reducible rfl) | (go_simp; rfl) | (go_simp; omega) | (go_simp; assumption) | (go_simp; simp; omega))
          (try simp only [Act.put, List.setIfInBounds_toArray, List.set_cons_zero, List.set_cons_succ])
          refine rg_skip (i := 9) rfl (by kernel_rfl) (by kernel_rfl) (by kernel_rfl) (fun _ _ _ h => h) (by kernel_rfl) (by assumption) ?_
          (try simp only [Act.put, List.setIfInBounds_toArray, List.set_cons_zero, List.set_cons_succ])
          refine rg_skip (i := 10) rfl (by kernel_rfl) (by kernel_rfl) (by kernel_rfl) (fun _ _ _ h => h) (by kernel_rfl) (by assumption) ?_
          (try simp only [Act.put, List.setIfInBounds_toArray, List.set_cons_zero, List.set_cons_succ])
          refine rg_skip (i := 11) rfl (by kernel_rfl) (by kernel_rfl) (by kernel_rfl) (fun _ _ _ h => h) (by kernel_rfl) (by assumption) ?_
          (try simp only [Act.put, List.setIfInBounds_toArray, List.set_cons_zero, List.set_cons_succ])
          refine rg_skip (i := 12) rfl (by kernel_rfl) (by kernel_rfl) (by kernel_rfl) (fun _ _ _ h => h) (by kernel_rfl) (by assumption) ?_
          (try simp only [Act.put, List.setIfInBounds_toArray, List.set_cons_zero, List.set_cons_succ])
          refine rg_skip (i := 13) rfl (by kernel_rfl) (by kernel_rfl) (by kernel_rfl) (fun _ _ _ h => h) (by kernel_rfl) (by assumption) ?_
          (try simp only [Act.put, List.setIfInBounds_toArray, List.set_cons_zero, List.set_cons_succ])
          refine rg_skip (i := 14) rfl (by kernel_rfl) (by kernel_rfl) (by kernel_rfl) (fun _ _ _ h => h) (by kernel_rfl) (by assumption) ?_
          (try simp only [Act.put, List.setIfInBounds_toArray, List.set_cons_zero, List.set_cons_succ])
          refine rg_skip (i := 15) rfl (by kernel_rfl) (by kernel_rfl) (by kernel_rfl) (fun _ _ _ h => h) (by kernel_rfl) (by assumption) ?_
          (try simp only [Act.put, List.setIfInBounds_toArray, List.set_cons_zero, List.set_cons_succ])
          refine rg_skip (i := 16) rfl (by kernel_rfl) (by kernel_rfl) (by kernel_rfl) (fun _ _ _ h => h) (by kernel_rfl) (by assumption) ?_
          (try simp only [Act.put, List.setIfInBounds_toArray, List.set_cons_zero, List.set_cons_succ])
          refine rg_skip (i := 17) rfl (by kernel_rfl) (by kernel_rfl) (by kernel_rfl) (fun _ _ _ h => h) (by kernel_rfl) (by assumption) ?_
          (try simp only [Act.put, List.setIfInBounds_toArray, List.set_cons_zero, List.set_cons_succ])
          refine rg_take (i := 18) (v := .bool true) rfl (by kernel_rfl) (by kernel_rfl) (by kernel_rfl) (fun _ _ _ h => h) rfl (by assumption) ?_ ?_
          · intro w hSw; (first | (go_simp; done) | (go_simp; with_reducible rfl) | (go_simp; rfl) | (go_simp; omega) | (go_simp; assumption) | (go_simp; simp; omega))
          (try simp only [Act.put, List.setIfInBounds_toArray, List.set_cons_zero, List.set_cons_succ])
          refine rg_take (i := 19) (v := .bool true) rfl (by kernel_rfl) (by kernel_rfl) (by kernel_rfl) (fun _ _ _ h => h) rfl (by assumption) ?_ ?_
          · intro w hSw; (first | (go_simp; done) | (go_simp; with_reducible rfl) | (go_simp; rfl) | (go_simp; omega) | (go_simp; assumption) | (go_simp; simp; omega))
          (try simp only [Act.put, List.setIfInBounds_toArray, List.set_cons_zero, List.set_cons_succ])
          refine rg_one (i := 20) (by kernel_rfl) rfl (by kernel_rfl) (fun Kp hKp => ?_)
          go_simp
          ((refine (knows_spec (by assumption)).mono ?_); rintro e107 w107 ⟨rfl, hs107⟩)
          (try go_wp2_with fail)
          refine rg_back (hK := hKp) ?_ (fun hsk107 => ?_)
          · (first | assumption | (apply Sat.drew; assumption) | (apply Sat.pick; assumption; (repeat (first | exact Pick.nil _ | with_reducible exact Pick.tail _ | with_reducible exact Out.here _ | apply Out.there | apply Pick.cons | apply Pick.drop))))
          clear hKp Kp
          have hsz107 := hs107
          (try simp only [Act.put, List.setIfInBounds_toArray, List.set_cons_zero, List.set_cons_succ])
          refine rg_take (i := 21) (v := .bool true) rfl (by kernel_rfl) (by kernel_rfl) (by kernel_rfl) (fun _ _ _ h => h) rfl (by assumption) ?_ ?_
          · intro w hSw; (first | (go_simp; done) | (go_simp; with_reducible rfl) | (go_simp; rfl) | (go_simp; omega) | (go_simp; assumption) | (go_simp; simp; omega))
          (try simp only [Act.put, List.setIfInBounds_toArray, List.set_cons_zero, List.set_cons_succ])
          refine rg_take (i := 22) (v := .bool true) rfl (by kernel_rfl) (by kernel_rfl) (by kernel_rfl) (fun _ _ _ h => h) rfl (by assumption) ?_ ?_
          · intro w hSw; (first | (go_simp; done) | (go_simp; with_reducible rfl) | (go_simp; rfl) | (go_simp; omega) | (go_simp; assumption) | (go_simp; simp; omega))
          (try simp only [Act.put, List.setIfInBounds_toArray, List.set_cons_zero, List.set_cons_succ])
          refine rg_done (by kernel_rfl) ?_
          refine hK13.out _ _ ?_
          clear hK13 K13
          refine wp_ret ?_
          go_ret
          exact ⟨rfl, hs107.pick (by (repeat (first | exact Pick.nil _ | exact Pick.tail _ | exact Out.here _ | apply Out.there | apply Pick.cons | apply Pick.drop)))⟩
      · have hfl1 : (fl != 0) = true := by simp [hfl]
        clear hfl
        refine hK8.out _ _ ?_
        clear hK8 K8
        refine wk_seq (fun K11 hK11 => ?_)
        refine wk_reg ?_
        refine pl_take (v := ?_) rfl ?_ ?_
        rotate_left
        · (first | (go_simp; done) | (go_simp; with_reducible rfl) | (go_simp; rfl) | (go_simp; omega) | (go_simp; assumption) | (go_simp; simp; omega))
        (try simp only [Act.put, List.setIfInBounds_toArray, List.set_cons_zero, List.set_cons_succ])
        refine pl_eff rfl (fun Kp hKp => ?_)
        go_simp
        (refine (kL _ _ _ _ (by assumption) (by (repeat (first | with_reducible assumption | with_reducible exact Rd.own | with_reducible exact Rd.nil | with_reducible apply Rd.cons)))).mono ?_; rintro e79 w79 ⟨A79, c79, rfl, hs79⟩)
        (try go_wp2_with fail)
        refine hKp.out _ _ ?_
        clear hKp Kp
        (try simp only [Act.put, List.setIfInBounds_toArray, List.set_cons_zero, List.set_cons_succ])
        refine pl_take (v := ?_) rfl ?_ ?_
        rotate_left
        · (first | (go_simp; done) | (go_simp; with_reducible rfl) | (go_simp; rfl) | (go_simp; omega) | (go_simp; assumption) | (go_simp; simp; omega))
        (try simp only [Act.put, List.setIfInBounds_toArray, List.set_cons_zero, List.set_cons_succ])
        refine pl_take (v := ?_) rfl ?_ ?_
        rotate_left
        · (first | (go_simp; done) | (go_simp; with_reducible rfl) | (go_simp; rfl) | (go_simp; omega) | (go_simp; assumption) | (go_simp; simp; omega))
        (try simp only [Act.put, List.setIfInBounds_toArray, List.set_cons_zero, List.set_cons_succ])
        refine pl_take (v := ?_) rfl ?_ ?_
        rotate_left
        · (first | (go_simp; done) | (go_simp; with_reducible rfl) | (go_simp; rfl) | (go_simp; omega) | (go_simp; assumption) | (go_simp; simp; omega))
        (try simp only [Act.put, List.setIfInBounds_toArray, List.set_cons_zero, List.set_cons_succ])
        refine pl_take (v := ?_) rfl ?_ ?_
        rotate_left
        · (first | (go_simp; done) | (go_simp; with_reducible rfl) | (go_simp; rfl) | (go_simp; omega) | (go_simp; assumption) | (go_simp; simp; omega))
        (try simp only [Act.put, List.setIfInBounds_toArray, List.set_cons_zero, List.set_cons_succ])
        refine pl_take (v := ?_) rfl ?_ ?_
        rotate_left
        · (first | (go_simp; done) | (go_simp; with_reducible rfl) | (go_simp; rfl) | (go_simp; omega) | (go_simp; assumption) | (go_simp; simp; omega))
        (try simp only [Act.put, List.setIfInBounds_toArray, List.set_cons_zero, List.set_cons_succ])
        refine pl_done ?_
        refine hK11.out _ _ ?_
        clear hK11 K11
        refine wk_seq (fun K12 hK12 => ?_)
        refine wk_reg ?_
        refine pl_take (v := ?_) rfl ?_ ?_
        rotate_left
        · (first | (go_simp; done) | (go_simp; with_reducible rfl) | (go_simp; rfl) | (go_simp; omega) | (go_simp; assumption) | (go_simp; simp; omega))
        (try simp only [Act.put, List.setIfInBounds_toArray, List.set_cons_zero, List.set_cons_succ])
        refine pl_eff rfl (fun Kp hKp => ?_)
        go_simp
        (refine (kM _ _ _ _ (by assumption) (by (repeat (first | with_reducible assumption | with_reducible exact Rd.own | with_reducible exact Rd.nil | with_reducible apply Rd.cons)))).mono ?_; rintro e84 w84 ⟨A84, c84, rfl, hs84⟩)
        (try go_wp2_with fail)
        refine hKp.out _ _ ?_
        clear hKp Kp
        (try simp only [Act.put, List.setIfInBounds_toArray, List.set_cons_zero, List.set_cons_succ])
        refine pl_take (v := ?_) rfl ?_ ?_
        rotate_left
        · (first | (go_simp; done) | (go_simp; with_reducible rfl) | (go_simp; rfl) | (go_simp; omega) | (go_simp; assumption) | (go_simp; simp; omega))
        (try simp only [Act.put, List.setIfInBounds_toArray, List.set_cons_zero, List.set_cons_succ])
        refine pl_take (v := ?_) rfl ?_ ?_
        rotate_left
        · (first | (go_simp; done) | (go_simp; with_reducible rfl) | (go_simp; rfl) | (go_simp; omega) | (go_simp; assumption) | (go_simp; simp; omega))
        (try simp only [Act.put, List.setIfInBounds_toArray, List.set_cons_zero, List.set_cons_succ])
        refine pl_take (v := ?_) rfl ?_ ?_
        rotate_left
        · (first | (go_simp; done) | (go_simp; with_reducible rfl) | (go_simp; rfl) | (go_simp; omega) | (go_simp; assumption) | (go_simp; simp; omega))
        (try simp only [Act.put, List.setIfInBounds_toArray, List.set_cons_zero, List.set_cons_succ])
        refine pl_take (v := ?_) rfl ?_ ?_
        rotate_left
        · (first | (go_simp; done) | (go_simp; with_reducible rfl) | (go_simp; rfl) | (go_simp; omega) | (go_simp; assumption) | (go_simp; simp; omega))
        (try simp only [Act.put, List.setIfInBounds_toArray, List.set_cons_zero, List.set_cons_succ])
        refine pl_take (v := ?_) rfl ?_ ?_
        rotate_left
        · (first | (go_simp; done) | (go_simp; with_reducible rfl) | (go_simp; rfl) | (go_simp; omega) | (go_simp; assumption) | (go_simp; simp; omega))
        (try simp only [Act.put, List.setIfInBounds_toArray, List.set_cons_zero, List.set_cons_succ])
        refine pl_done ?_
        refine hK12.out _ _ ?_
        clear hK12 K12
        refine wk_seq (fun K13 hK13 => ?_)
        refine rg_start rfl (by assumption) (fun wr11 hsr11 => ?_)
        refine rg_take (i := 0) (v := ?_) rfl (by kernel_rfl) (by kernel_rfl) (by kernel_rfl) (fun _ _ _ h => h) rfl (by assumption) ?_ ?_
        rotate_left
        · intro w hSw; (first | (go_simp; done) | (go_simp; with_reducible rfl) | (go_simp; rfl) | (go_simp; omega) | (go_simp; assumption) | (go_simp; simp; omega))
        (try simp only [Act.put, List.setIfInBounds_toArray, List.set_cons_zero, List.set_cons_succ])
        refine rg_one (i := 1) (by kernel_rfl) rfl rfl (fun Kp hKp => ?_)
        go_simp
        ((refine (errnum_spec _).mono ?_); rintro e88 w88 ⟨rfl, rfl⟩)
        (try go_wp2_with fail)
        refine rg_back (hK := hKp) ?_ (fun hsk88 => ?_)
        · (first | assumption | (apply Sat.drew; assumption) | (apply Sat.pick; assumption; (repeat (first | exact Pick.nil _ | with_reducible exact Pick.tail _ | with_reducible exact Out.here _ | apply Out.there | apply Pick.cons | apply Pick.drop))))
        clear hKp Kp
        (try simp only [Act.put, List.setIfInBounds_toArray, List.set_cons_zero, List.set_cons_succ])
        refine rg_take (i := 2) (v := .bool true) rfl (by kernel_rfl) (by kernel_rfl) (by kernel_rfl) (fun _ _ _ h => h) rfl (by assumption) ?_ ?_
        · intro w hSw; (first | (go_simp; done) | (go_simp; with_reducible rfl) | (go_simp; rfl) | (go_simp; omega) | (go_simp; assumption) | (go_simp; simp; omega))
        (try simp only [Act.put, List.setIfInBounds_toArray, List.set_cons_zero, List.set_cons_succ])
        refine rg_take (i := 3) (v := .bool true) rfl (by kernel_rfl) (by kernel_rfl) (by kernel_rfl) (fun _ _ _ h => h) rfl (by assumption) ?_ ?_
        · intro w hSw; (first | (go_simp; done) | (go_simp; with_reducible rfl) | (go_simp; rfl) | (go_simp; omega) | (go_simp; assumption) | (go_simp; simp; omega))
        (try simp only [Act.put, List.setIfInBounds_toArray, List.set_cons_zero, List.set_cons_succ])
        refine rg_skip (i := 4) rfl (by kernel_rfl) (by kernel_rfl) (by kernel_rfl) (fun _ _ _ h => h) (by kernel_rfl) (by assumption) ?_
        (try simp only [Act.put, List.setIfInBounds_toArray, List.set_cons_zero, List.set_cons_succ])
        refine rg_skip (i := 5) rfl (by kernel_rfl) (by kernel_rfl) (by kernel_rfl) (fun _ _ _ h => h) (by kernel_rfl) (by assumption) ?_
        (try simp only [Act.put, List.setIfInBounds_toArray, List.set_cons_zero, List.set_cons_succ])
        refine rg_skip (i := 6) rfl (by kernel_rfl) (by kernel_rfl) (by kernel_rfl) (fun _ _ _ h => h) (by kernel_rfl) (by assumption) ?_
        (try simp only [Act.put, List.setIfInBounds_toArray, List.set_cons_zero, List.set_cons_succ])
        refine rg_take (i := 7) (v := .bool true) rfl (by kernel_rfl) (by kernel_rfl) (by kernel_rfl) (fun _ _ _ h => h) rfl (by assumption) ?_ ?_
        · intro w hSw; (first | (go_simp; done) | (go_simp; with_reducible rfl) | (go_simp; rfl) | (go_simp; omega) | (go_simp; assumption) | (go_simp; simp; omega))
        (try simp only [Act.put, List.setIfInBounds_toArray, List.set_cons_zero, List.set_cons_succ])
        refine rg_take (i := 8) (v := .bool true) rfl (by kernel_rfl) (by kernel_rfl) (by kernel_rfl) (fun _ _ _ h => h) rfl (by assumption) ?_ ?_
        · intro w hSw; (first | (go_simp; done) | (go_simp; with_reducible rfl) | (go_simp; rfl) | (go_simp; omega) | (go_simp; assumption) | (go_simp; simp; omega))
        (try simp only [Act.put, List.setIfInBounds_toArray, List.set_cons_zero, List.set_cons_succ])
        refine rg_skip (i := 9) rfl (by kernel_rfl) (by kernel_rfl) (by kernel_rfl) (fun _ _ _ h => h) (by kernel_rfl) (by assumption) ?_
        (try simp only [Act.put, List.setIfInBounds_toArray, List.set_cons_zero, List.set_cons_succ])
        refine rg_skip (i := 10) rfl (by kernel_rfl) (by kernel_rfl) (by kernel_rfl) (fun _ _ _ h => h) (by kernel_rfl) (by assumption) ?_
        (try simp only [Act.put, List.setIfInBounds_toArray, List.set_cons_zero, List.set_cons_succ])
        refine rg_skip (i := 11) rfl (by kernel_rfl) (by kernel_rfl) (by kernel_rfl) (fun _ _ _ h => h) (by kernel_rfl) (by assumption) ?_
        (try simp only [Act.put, List.setIfInBounds_toArray, List.set_cons_zero, List.set_cons_succ])
        refine rg_skip (i := 12) rfl (by kernel_rfl) (by kernel_rfl) (by kernel_rfl) (fun _ _ _ h => h) (by kernel_rfl) (by assumption) ?_
        (try simp only [Act.put, List.setIfInBounds_toArray, List.set_cons_zero, List.set_cons_succ])
        refine rg_skip (i := 13) rfl (by kernel_rfl) (by kernel_rfl) (by kernel_rfl) (fun _ _ _ h => h) (by kernel_rfl) (by assumption) ?_
        (try simp only [Act.put, List.setIfInBounds_toArray, List.set_cons_zero, List.set_cons_succ])
        refine rg_skip (i := 14) rfl (by kernel_rfl) (by kernel_rfl) (by kernel_rfl) (fun _ _ _ h => h) (by kernel_rfl) (by assumption) ?_
        (try simp only [Act.put, List.setIfInBounds_toArray, List.set_cons_zero, List.set_cons_succ])
        refine rg_skip (i := 15) rfl (by kernel_rfl) (by kernel_rfl) (by kernel_rfl) (fun _ _ _ h => h) (by kernel_rfl) (by assumption) ?_
        (try simp only [Act.put, List.setIfInBounds_toArray, List.set_cons_zero, List.set_cons_succ])
        refine rg_skip (i := 16) rfl (by kernel_rfl) (by kernel_rfl) (by kernel_rfl) (fun _ _ _ h => h) (by kernel_rfl) (by assumption) ?_
        (try simp only [Act.put, List.setIfInBounds_toArray, List.set_cons_zero, List.set_cons_succ])
        refine rg_skip (i := 17) rfl (by kernel_rfl) (by kernel_rfl) (by kernel_rfl) (fun _ _ _ h => h) (by kernel_rfl) (by assumption) ?_
        (try simp only [Act.put, List.setIfInBounds_toArray, List.set_cons_zero, List.set_cons_succ])
        refine rg_take (i := 18) (v := .bool true) rfl (by kernel_rfl) (by kernel_rfl) (by kernel_rfl) (fun _ _ _ h => h) rfl (by assumption) ?_ ?_
        · intro w hSw; (first | (go_simp; done) | (go_simp; with_reducible rfl) | (go_simp; rfl) | (go_simp; omega) | (go_simp; assumption) | (go_simp; simp; omega))
        (try simp only [Act.put, List.setIfInBounds_toArray, List.set_cons_zero, List.set_cons_succ])
        refine rg_take (i := 19) (v := .bool true) rfl (by kernel_rfl) (by kernel_rfl) (by kernel_rfl) (fun _ _ _ h => h) rfl (by assumption) ?_ ?_
        · intro w hSw; (first | (go_simp; done) | (go_simp; with_reducible rfl) | (go_simp; rfl) | (go_simp; omega) | (go_simp; assumption) | (go_simp; simp; omega))
        (try simp only [Act.put, List.setIfInBounds_toArray, List.set_cons_zero, List.set_cons_succ])
        refine rg_one (i := 20) (by kernel_rfl) rfl (by kernel_rfl) (fun Kp hKp => ?_)
        go_simp
        ((refine (knows_spec (by assumption)).mono ?_); rintro e107 w107 ⟨rfl, hs107⟩)
        (try go_wp2_with fail)
        refine rg_back (hK := hKp) ?_ (fun hsk107 => ?_)
        · (first | assumption | (apply Sat.drew; assumption) | (apply Sat.pick; assumption; (repeat (first | exact Pick.nil _ | with_reducible exact Pick.tail _ | with_reducible exact Out.here _ | apply Out.there | apply Pick.cons | apply Pick.drop))))
        clear hKp Kp
        have hsz107 := hs107
        (try simp only [Act.put, List.setIfInBounds_toArray, List.set_cons_zero, List.set_cons_succ])
        refine rg_take (i := 21) (v := .bool true) rfl (by kernel_rfl) (by kernel_rfl) (by kernel_rfl) (fun _ _ _ h => h) rfl (by assumption) ?_ ?_
        · intro w hSw; (first | (go_simp; done) | (go_simp; with_reducible rfl) | (go_simp; rfl) | (go_simp; omega) | (go_simp; assumption) | (go_simp; simp; omega))
        (try simp only [Act.put, List.setIfInBounds_toArray, List.set_cons_zero, List.set_cons_succ])
        refine rg_take (i := 22) (v := .bool true) rfl (by kernel_rfl) (by kernel_rfl) (by kernel_rfl) (fun _ _ _ h => h) rfl (by assumption) ?_ ?_
        · intro w hSw; (first | (go_simp; done) | (go_simp; with_reducible rfl) | (go_simp; rfl) | (go_simp; omega) | (go_simp; assumption) | (go_simp; simp; omega))
        (try simp only [Act.put, List.setIfInBounds_toArray, List.set_cons_zero, List.set_cons_succ])
        refine rg_done (by kernel_rfl) ?_
        refine hK13.out _ _ ?_
        clear hK13 K13
        refine wp_ret ?_
        go_ret
        exact ⟨rfl, hs107.pick (by (repeat (first | exact Pick.nil _ | exact Pick.tail _ | exact Out.here _ | apply Out.there | apply Pick.cons | apply Pick.drop)))⟩
    case first =>
      by_cases hex : ex = 0
      · subst hex
        by_cases hey : ey = 0
        · subst hey
          have h := h75.out rfl rfl
          refine wk_seq (fun K9 hK9 => ?_)
          refine rg_start rfl (by assumption) (fun wr7 hsr7 => ?_)
          refine rg_take (i := 0) (v := ?_) rfl (by kernel_rfl) (by kernel_rfl) (by kernel_rfl) (fun _ _ _ h => h) rfl (by assumption) ?_ ?_
          rotate_left
          · intro w hSw; (first | (go_simp; done) | (go_simp; with_reducible rfl) | (go_simp; rfl) | (go_simp; omega) | (go_simp; assumption) | (go_simp; simp; omega))
          (try simp only [Act.put, List.setIfInBounds_toArray, List.set_cons_zero, List.set_cons_succ])
          refine rg_one (i := 1) (by kernel_rfl) rfl rfl (fun Kp hKp => ?_)
          go_simp
          ((refine (errnum_spec _).mono ?_); rintro e59 w59 ⟨rfl, rfl⟩)
          (try go_wp2_with fail)
          refine rg_back (hK := hKp) ?_ (fun hsk59 => ?_)
          · (first | assumption | (apply Sat.drew; assumption) | (apply Sat.pick; assumption; (repeat (first | exact Pick.nil _ | with_reducible exact Pick.tail _ | with_reducible exact Out.here _ | apply Out.there | apply Pick.cons | apply Pick.drop))))
          clear hKp Kp
          (try simp only [Act.put, List.setIfInBounds_toArray, List.set_cons_zero, List.set_cons_succ])
          refine rg_take (i := 2) (v := .bool true) rfl (by kernel_rfl) (by kernel_rfl) (by kernel_rfl) (fun _ _ _ h => h) rfl (by assumption) ?_ ?_
          · intro w hSw; (first | (go_simp; done) | (go_simp; with_reducible rfl) | (go_simp; rfl) | (go_simp; omega) | (go_simp; assumption) | (go_simp; simp; omega))
          (try simp only [Act.put, List.setIfInBounds_toArray, List.set_cons_zero, List.set_cons_succ])
          refine rg_take (i := 3) (v := .bool true) rfl (by kernel_rfl) (by kernel_rfl) (by kernel_rfl) (fun _ _ _ h => h) rfl (by assumption) ?_ ?_
          · intro w hSw; (first | (go_simp; done) | (go_simp; with_reducible rfl) | (go_simp; rfl) | (go_simp; omega) | (go_simp; assumption) | (go_simp; simp; omega))
          (try simp only [Act.put, List.setIfInBounds_toArray, List.set_cons_zero, List.set_cons_succ])
          refine rg_take (i := 4) (v := ?_) rfl (by kernel_rfl) (by kernel_rfl) (by kernel_rfl) (fun _ _ _ h => h) (by kernel_rfl) (by assumption) ?_ ?_
          rotate_left
          · intro w hSw; (first | (go_simp; done) | (go_simp; with_reducible rfl) | (go_simp; rfl) | (go_simp; omega) | (go_simp; assumption) | (go_simp; simp; omega))
          (try simp only [Act.put, List.setIfInBounds_toArray, List.set_cons_zero, List.set_cons_succ])
          refine rg_one (i := 5) (by kernel_rfl) rfl (by kernel_rfl) (fun Kp hKp => ?_)
          go_simp
          ((refine (errnum_spec _).mono ?_); rintro e63 w63 ⟨rfl, rfl⟩)
          (try go_wp2_with fail)
          refine rg_back (hK := hKp) ?_ (fun hsk63 => ?_)
          · (first | assumption | (apply Sat.drew; assumption) | (apply Sat.pick; assumption; (repeat (first | exact Pick.nil _ | with_reducible exact Pick.tail _ | with_reducible exact Out.here _ | apply Out.there | apply Pick.cons | apply Pick.drop))))
          clear hKp Kp
          (try simp only [Act.put, List.setIfInBounds_toArray, List.set_cons_zero, List.set_cons_succ])
          refine rg_take (i := 6) (v := .bool true) rfl (by kernel_rfl) (by kernel_rfl) (by kernel_rfl) (fun _ _ _ h => h) (by kernel_rfl) (by assumption) ?_ ?_
          · intro w hSw; (first | (go_simp; done) | (go_simp; with_reducible rfl) | (go_simp; rfl) | (go_simp; omega) | (go_simp; assumption) | (go_simp; simp; omega))
          (try simp only [Act.put, List.setIfInBounds_toArray, List.set_cons_zero, List.set_cons_succ])
          refine rg_take (i := 7) (v := .bool true) rfl (by kernel_rfl) (by kernel_rfl) (by kernel_rfl) (fun _ _ _ h => h) rfl (by assumption) ?_ ?_
          · intro w hSw; (first | (go_simp; done) | (go_simp; with_reducible rfl) | (go_simp; rfl) | (go_simp; omega) | (go_simp; assumption) | (go_simp; simp; omega))
          (try simp only [Act.put, List.setIfInBounds_toArray, List.set_cons_zero, List.set_cons_succ])
          refine rg_take (i := 8) (v := .bool true) rfl (by kernel_rfl) (by kernel_rfl) (by kernel_rfl) (fun _ _ _ h => h) rfl (by assumption) ?_ ?_
          · intro w hSw; (first | (go_simp; done) | (go_simp; with_reducible rfl) | (go_simp; rfl) | (go_simp; omega) | (go_simp; assumption) | (go_simp; simp; omega))
          (try simp only [Act.put, List.setIfInBounds_toArray, List.set_cons_zero, List.set_cons_succ])
          refine rg_take (i := 9) (v := ?_) rfl (by kernel_rfl) (by kernel_rfl) (by kernel_rfl) (fun _ _ _ h => h) (by kernel_rfl) (by assumption) ?_ ?_
          rotate_left
          · intro w hSw; (first | (go_simp; done) | (go_simp; with_reducible rfl) | (go_simp; rfl) | (go_simp; omega) | (go_simp; assumption) | (go_simp; simp; omega))
          (try simp only [Act.put, List.setIfInBounds_toArray, List.set_cons_zero, List.set_cons_succ])
          refine rg_take (i := 10) (v := ?_) rfl (by kernel_rfl) (by kernel_rfl) (by kernel_rfl) (fun _ _ _ h => h) (by kernel_rfl) (by assumption) ?_ ?_
          rotate_left
          · intro w hSw; (first | ((with_reducible apply yl_b2s); assumption; rfl; (repeat (first | with_reducible assumption | with_reducible exact Rd.own | with_reducible exact Rd.nil | with_reducible apply Rd.cons)); rfl) | (first | (go_simp; done) | (go_simp; with_reducible rfl) | (go_simp; rfl) | (go_simp; omega) | (go_simp; assumption) | (go_simp; simp; omega)))
          (try simp only [Act.put, List.setIfInBounds_toArray, List.set_cons_zero, List.set_cons_succ])
          refine rg_take (i := 11) (v := ?_) rfl (by kernel_rfl) (by kernel_rfl) (by kernel_rfl) (fun _ _ _ h => h) (by kernel_rfl) (by assumption) ?_ ?_
          rotate_left
          · intro w hSw; (first | (go_simp; done) | (go_simp; with_reducible rfl) | (go_simp; rfl) | (go_simp; omega) | (go_simp; assumption) | (go_simp; simp; omega))
          (try simp only [Act.put, List.setIfInBounds_toArray, List.set_cons_zero, List.set_cons_succ])
          refine rg_take (i := 12) (v := ?_) rfl (by kernel_rfl) (by kernel_rfl) (by kernel_rfl) (fun _ _ _ h => h) (by kernel_rfl) (by assumption) ?_ ?_
          rotate_left
          · intro w hSw; (first | ((with_reducible apply yl_b2s); assumption; rfl; (repeat (first | with_reducible assumption | with_reducible exact Rd.own | with_reducible exact Rd.nil | with_reducible apply Rd.cons)); rfl) | (first | (go_simp; done) | (go_simp; with_reducible rfl) | (go_simp; rfl) | (go_simp; omega) | (go_simp; assumption) | (go_simp; simp; omega)))
          (try simp only [Act.put, List.setIfInBounds_toArray, List.set_cons_zero, List.set_cons_succ])
          refine rg_take (i := 13) (v := ?_) rfl (by kernel_rfl) (by kernel_rfl) (by kernel_rfl) (fun _ _ _ h => h) (by kernel_rfl) (by assumption) ?_ ?_
          rotate_left
          · intro w hSw; (first | (go_simp; done) | (go_simp; with_reducible rfl) | (go_simp; rfl) | (go_simp; omega) | (go_simp; assumption) | (go_simp; simp; omega))
          (try simp only [Act.put, List.setIfInBounds_toArray, List.set_cons_zero, List.set_cons_succ])
          refine rg_take (i := 14) (v := ?_) rfl (by kernel_rfl) (by kernel_rfl) (by kernel_rfl) (fun _ _ _ h => h) (by kernel_rfl) (by assumption) ?_ ?_
          rotate_left
          · intro w hSw; (first | ((with_reducible apply yl_loadAgg); assumption; rfl; (repeat (first | with_reducible exact Out.here _ | apply Out.there)); (simp); rfl; rfl) | ((with_reducible apply yl_loadAggR); assumption; rfl; (repeat (first | with_reducible assumption | with_reducible exact Rd.own | with_reducible exact Rd.nil | with_reducible apply Rd.cons)); rfl))
          (try simp only [Act.put, List.setIfInBounds_toArray, List.set_cons_zero, List.set_cons_succ])
          refine rg_take (i := 15) (v := ?_) rfl (by kernel_rfl) (by kernel_rfl) (by kernel_rfl) (fun _ _ _ h => h) (by kernel_rfl) (by assumption) ?_ ?_
          rotate_left
          · intro w hSw; (first | ((with_reducible apply yl_loadAgg); assumption; rfl; (repeat (first | with_reducible exact Out.here _ | apply Out.there)); (simp); rfl; rfl) | ((with_reducible apply yl_loadAggR); assumption; rfl; (repeat (first | with_reducible assumption | with_reducible exact Rd.own | with_reducible exact Rd.nil | with_reducible apply Rd.cons)); rfl))
          (try simp only [Act.put, List.setIfInBounds_toArray, List.set_cons_zero, List.set_cons_succ])
          refine rg_one (i := 16) (by kernel_rfl) rfl (by kernel_rfl) (fun Kp hKp => ?_)
          go_simp
          (refine (kS _ _ _ _ _ _ (by assumption) (by (repeat (first | with_reducible assumption | with_reducible exact Rd.own | with_reducible exact Rd.nil | with_reducible apply Rd.cons))) (by (repeat (first | with_reducible assumption | with_reducible exact Rd.own | with_reducible exact Rd.nil | with_reducible apply Rd.cons)))).mono ?_; rintro e74 w74 ⟨rfl, hs74⟩)
          (try go_wp2_with fail)
          refine rg_back (hK := hKp) ?_ (fun hsk74 => ?_)
          · (first | assumption | (apply Sat.drew; assumption) | (apply Sat.pick; assumption; (repeat (first | exact Pick.nil _ | with_reducible exact Pick.tail _ | with_reducible exact Out.here _ | apply Out.there | apply Pick.cons | apply Pick.drop))))
          clear hKp Kp
          have hsz74 := hs74
          (try simp only [Act.put, List.setIfInBounds_toArray, List.set_cons_zero, List.set_cons_succ])
          refine rg_take (i := 17) (v := .bool false) rfl (by kernel_rfl) (by kernel_rfl) (by kernel_rfl) (fun _ _ _ h => h) (by kernel_rfl) (by assumption) ?_ ?_
          · intro w hSw; (first | (go_simp; done) | (go_simp; with_reducible rfl) | (go_simp; rfl) | (go_simp; omega) | (go_simp; assumption) | (go_simp; simp; omega))
          (try simp only [Act.put, List.setIfInBounds_toArray, List.set_cons_zero, List.set_cons_succ])
          refine rg_take (i := 18) (v := .bool false) rfl (by kernel_rfl) (by kernel_rfl) (by kernel_rfl) (fun _ _ _ h => h) rfl (by assumption) ?_ ?_
          · intro w hSw; (first | (go_simp; done) | (go_simp; with_reducible rfl) | (go_simp; rfl) | (go_simp; omega) | (go_simp; assumption) | (go_simp; simp; omega))
          (try simp only [Act.put, List.setIfInBounds_toArray, List.set_cons_zero, List.set_cons_succ])
          refine rg_done (by kernel_rfl) ?_
          refine hK9.out _ _ ?_
          clear hK9 K9
          refine wp_cond_false rfl ?_
          refine wp_skip ?_
          refine (by assumption : ∀ a' w', Met _ a' w' → _) _ _ ?_
          go_meet
          case rel => exact hs74.pick (by (repeat (first | exact Pick.nil _ | exact Pick.tail _ | exact Out.here _ | apply Out.there | apply Pick.cons | apply Pick.drop)))
        · have hey1 : (ey == 0) = false := by simp [hey]
          clear hey
          refine wk_seq (fun K9 hK9 => ?_)
          refine rg_start rfl (by assumption) (fun wr7 hsr7 => ?_)
          refine rg_take (i := 0) (v := ?_) rfl (by kernel_rfl) (by kernel_rfl) (by kernel_rfl) (fun _ _ _ h => h) rfl (by assumption) ?_ ?_
          rotate_left
          · intro w hSw; (first | (go_simp; done) | (go_simp; with_reducible rfl) | (go_simp; rfl) | (go_simp; omega) | (go_simp; assumption) | (go_simp; simp; omega))
          (try simp only [Act.put, List.setIfInBounds_toArray, List.set_cons_zero, List.set_cons_succ])
          refine rg_one (i := 1) (by kernel_rfl) rfl rfl (fun Kp hKp => ?_)
          go_simp
          ((refine (errnum_spec _).mono ?_); rintro e59 w59 ⟨rfl, rfl⟩)
          (try go_wp2_with fail)
          refine rg_back (hK := hKp) ?_ (fun hsk59 => ?_)
          · (first | assumption | (apply Sat.drew; assumption) | (apply Sat.pick; assumption; (repeat (first | exact Pick.nil _ | with_reducible exact Pick.tail _ | with_reducible exact Out.here _ | apply Out.there | apply Pick.cons | apply Pick.drop))))
          clear hKp Kp
          (try simp only [Act.put, List.setIfInBounds_toArray, List.set_cons_zero, List.set_cons_succ])
          refine rg_take (i := 2) (v := .bool true) rfl (by kernel_rfl) (by kernel_rfl) (by kernel_rfl) (fun _ _ _ h => h) rfl (by assumption) ?_ ?_
          · intro w hSw; (first | (go_simp; done) | (go_simp; with_reducible rfl) | (go_simp; rfl) | (go_simp; omega) | (go_simp; assumption) | (go_simp; simp; omega))
          (try simp only [Act.put, List.setIfInBounds_toArray, List.set_cons_zero, List.set_cons_succ])
          refine rg_take (i := 3) (v := .bool true) rfl (by kernel_rfl) (by kernel_rfl) (by kernel_rfl) (fun _ _ _ h => h) rfl (by assumption) ?_ ?_
          · intro w hSw; (first | (go_simp; done) | (go_simp; with_reducible rfl) | (go_simp; rfl) | (go_simp; omega) | (go_simp; assumption) | (go_simp; simp; omega))
          (try simp only [Act.put, List.setIfInBounds_toArray, List.set_cons_zero, List.set_cons_succ])
          refine rg_take (i := 4) (v := ?_) rfl (by kernel_rfl) (by kernel_rfl) (by kernel_rfl) (fun _ _ _ h => h) (by kernel_rfl) (by assumption) ?_ ?_
          rotate_left
          · intro w hSw; (first | (go_simp; done) | (go_simp; with_reducible rfl) | (go_simp; rfl) | (go_simp; omega) | (go_simp; assumption) | (go_simp; simp; omega))
          (try simp only [Act.put, List.setIfInBounds_toArray, List.set_cons_zero, List.set_cons_succ])
          refine rg_one (i := 5) (by kernel_rfl) rfl (by kernel_rfl) (fun Kp hKp => ?_)
          go_simp
          ((refine (errnum_spec _).mono ?_); rintro e63 w63 ⟨rfl, rfl⟩)
          (try go_wp2_with fail)
          refine rg_back (hK := hKp) ?_ (fun hsk63 => ?_)
          · (first | assumption | (apply Sat.drew; assumption) | (apply Sat.pick; assumption; (repeat (first | exact Pick.nil _ | with_reducible exact Pick.tail _ | with_reducible exact Out.here _ | apply Out.there | apply Pick.cons | apply Pick.drop))))
          clear hKp Kp
          (try simp only [Act.put, List.setIfInBounds_toArray, List.set_cons_zero, List.set_cons_succ])
          refine rg_take (i := 6) (v := .bool false) rfl (by kernel_rfl) (by kernel_rfl) (by kernel_rfl) (fun _ _ _ h => h) (by kernel_rfl) (by assumption) ?_ ?_
          · intro w hSw; (first | (go_simp; done) | (go_simp; with_reducible rfl) | (go_simp; rfl) | (go_simp; omega) | (go_simp; assumption) | (go_simp; simp; omega))
          (try simp only [Act.put, List.setIfInBounds_toArray, List.set_cons_zero, List.set_cons_succ])
          refine rg_take (i := 7) (v := .bool false) rfl (by kernel_rfl) (by kernel_rfl) (by kernel_rfl) (fun _ _ _ h => h) rfl (by assumption) ?_ ?_
          · intro w hSw; (first | (go_simp; done) | (go_simp; with_reducible rfl) | (go_simp; rfl) | (go_simp; omega) | (go_simp; assumption) | (go_simp; simp; omega))
          (try simp only [Act.put, List.setIfInBounds_toArray, List.set_cons_zero, List.set_cons_succ])
          refine rg_take (i := 8) (v := .bool false) rfl (by kernel_rfl) (by kernel_rfl) (by kernel_rfl) (fun _ _ _ h => h) rfl (by assumption) ?_ ?_
          · intro w hSw; (first | (go_simp; done) | (go_simp; with_reducible rfl) | (go_simp; rfl) | (go_simp; omega) | (go_simp; assumption) | (go_simp; simp; omega))
          (try simp only [Act.put, List.setIfInBounds_toArray, List.set_cons_zero, List.set_cons_succ])
          refine rg_skip (i := 9) rfl (by kernel_rfl) (by kernel_rfl) (by kernel_rfl) (fun _ _ _ h => h) (by kernel_rfl) (by assumption) ?_
          (try simp only [Act.put, List.setIfInBounds_toArray, List.set_cons_zero, List.set_cons_succ])
          refine rg_skip (i := 10) rfl (by kernel_rfl) (by kernel_rfl) (by kernel_rfl) (fun _ _ _ h => h) (by kernel_rfl) (by assumption) ?_
          (try simp only [Act.put, List.setIfInBounds_toArray, List.set_cons_zero, List.set_cons_succ])
          refine rg_skip (i := 11) rfl (by kernel_rfl) (by kernel_rfl) (by kernel_rfl) (fun _ _ _ h => h) (by kernel_rfl) (by assumption) ?_
          (try simp only [Act.put, List.setIfInBounds_toArray, List.set_cons_zero, List.set_cons_succ])
          refine rg_skip (i := 12) rfl (by kernel_rfl) (by kernel_rfl) (by kernel_rfl) (fun _ _ _ h => h) (by kernel_rfl) (by assumption) ?_
          (try simp only [Act.put, List.setIfInBounds_toArray, List.set_cons_zero, List.set_cons_succ])
          refine rg_skip (i := 13) rfl (by kernel_rfl) (by kernel_rfl) (by kernel_rfl) (fun _ _ _ h => h) (by kernel_rfl) (by assumption) ?_
          (try simp only [Act.put, List.setIfInBounds_toArray, List.set_cons_zero, List.set_cons_succ])
          refine rg_skip (i := 14) rfl (by kernel_rfl) (by kernel_rfl) (by kernel_rfl) (fun _ _ _ h => h) (by kernel_rfl) (by assumption) ?_
          (try simp only [Act.put, List.setIfInBounds_toArray, List.set_cons_zero, List.set_cons_succ])
          refine rg_skip (i := 15) rfl (by kernel_rfl) (by kernel_rfl) (by kernel_rfl) (fun _ _ _ h => h) (by kernel_rfl) (by assumption) ?_
          (try simp only [Act.put, List.setIfInBounds_toArray, List.set_cons_zero, List.set_cons_succ])
          refine rg_skip (i := 16) rfl (by kernel_rfl) (by kernel_rfl) (by kernel_rfl) (fun _ _ _ h => h) (by kernel_rfl) (by assumption) ?_
          (try simp only [Act.put, List.setIfInBounds_toArray, List.set_cons_zero, List.set_cons_succ])
          refine rg_skip (i := 17) rfl (by kernel_rfl) (by kernel_rfl) (by kernel_rfl) (fun _ _ _ h => h) (by kernel_rfl) (by assumption) ?_
          (try simp only [Act.put, List.setIfInBounds_toArray, List.set_cons_zero, List.set_cons_succ])
          refine rg_take (i := 18) (v := .bool false) rfl (by kernel_rfl) (by kernel_rfl) (by kernel_rfl) (fun _ _ _ h => h) rfl (by assumption) ?_ ?_
          · intro w hSw; (first | (go_simp; done) | (go_simp; with_reducible rfl) | (go_simp; rfl) | (go_simp; omega) | (go_simp; assumption) | (go_simp; simp; omega))
          (try simp only [Act.put, List.setIfInBounds_toArray, List.set_cons_zero, List.set_cons_succ])
          refine rg_done (by kernel_rfl) ?_
          refine hK9.out _ _ ?_
          clear hK9 K9
          refine wp_cond_false rfl ?_
          refine wp_skip ?_
          refine (by assumption : ∀ a' w', Met _ a' w' → _) _ _ ?_
          go_meet
          case rel => exact hsr7.pick (by (repeat (first | exact Pick.nil _ | exact Pick.tail _ | exact Out.here _ | apply Out.there | apply Pick.cons | apply Pick.drop)))
      · have hex1 : (ex == 0) = false := by simp [hex]
        clear hex
        refine wk_seq (fun K9 hK9 => ?_)
        refine rg_start rfl (by assumption) (fun wr7 hsr7 => ?_)
        refine rg_take (i := 0) (v := ?_) rfl (by kernel_rfl) (by kernel_rfl) (by kernel_rfl) (fun _ _ _ h => h) rfl (by assumption) ?_ ?_
        rotate_left
        · intro w hSw; (first | (go_simp; done) | (go_simp; with_reducible rfl) | (go_simp; rfl) | (go_simp; omega) | (go_simp; assumption) | (go_simp; simp; omega))
        (try simp only [Act.put, List.setIfInBounds_toArray, List.set_cons_zero, List.set_cons_succ])
        refine rg_one (i := 1) (by kernel_rfl) rfl rfl (fun Kp hKp => ?_)
        go_simp
        ((refine (errnum_spec _).mono ?_); rintro e59 w59 ⟨rfl, rfl⟩)
        (try go_wp2_with fail)
        refine rg_back (hK := hKp) ?_ (fun hsk59 => ?_)
        · (first | assumption | (apply Sat.drew; assumption) | (apply Sat.pick; assumption; (repeat (first | exact Pick.nil _ | with_reducible exact Pick.tail _ | with_reducible exact Out.here _ | apply Out.there | apply Pick.cons | apply Pick.drop))))
        clear hKp Kp
        (try simp only [Act.put, List.setIfInBounds_toArray, List.set_cons_zero, List.set_cons_succ])
        refine rg_take (i := 2) (v := .bool false) rfl (by kernel_rfl) (by kernel_rfl) (by kernel_rfl) (fun _ _ _ h => h) rfl (by assumption) ?_ ?_
        · intro w hSw; (first | (go_simp; done) | (go_simp; with_reducible rfl) | (go_simp; rfl) | (go_simp; omega) | (go_simp; assumption) | (go_simp; simp; omega))
        (try simp only [Act.put, List.setIfInBounds_toArray, List.set_cons_zero, List.set_cons_succ])
        refine rg_take (i := 3) (v := .bool false) rfl (by kernel_rfl) (by kernel_rfl) (by kernel_rfl) (fun _ _ _ h => h) rfl (by assumption) ?_ ?_
        · intro w hSw; (first | (go_simp; done) | (go_simp; with_reducible rfl) | (go_simp; rfl) | (go_simp; omega) | (go_simp; assumption) | (go_simp; simp; omega))
        (try simp only [Act.put, List.setIfInBounds_toArray, List.set_cons_zero, List.set_cons_succ])
        refine rg_skip (i := 4) rfl (by kernel_rfl) (by kernel_rfl) (by kernel_rfl) (fun _ _ _ h => h) (by kernel_rfl) (by assumption) ?_
        (try simp only [Act.put, List.setIfInBounds_toArray, List.set_cons_zero, List.set_cons_succ])
        refine rg_skip (i := 5) rfl (by kernel_rfl) (by kernel_rfl) (by kernel_rfl) (fun _ _ _ h => h) (by kernel_rfl) (by assumption) ?_
        (try simp only [Act.put, List.setIfInBounds_toArray, List.set_cons_zero, List.set_cons_succ])
        refine rg_skip (i := 6) rfl (by kernel_rfl) (by kernel_rfl) (by kernel_rfl) (fun _ _ _ h => h) (by kernel_rfl) (by assumption) ?_
        (try simp only [Act.put, List.setIfInBounds_toArray, List.set_cons_zero, List.set_cons_succ])
        refine rg_take (i := 7) (v := .bool false) rfl (by kernel_rfl) (by kernel_rfl) (by kernel_rfl) (fun _ _ _ h => h) rfl (by assumption) ?_ ?_
        · intro w hSw; (first | (go_simp; done) | (go_simp; with_reducible rfl) | (go_simp; rfl) | (go_simp; omega) | (go_simp; assumption) | (go_simp; simp; omega))
        (try simp only [Act.put, List.setIfInBounds_toArray, List.set_cons_zero, List.set_cons_succ])
        refine rg_take (i := 8) (v := .bool false) rfl (by kernel_rfl) (by kernel_rfl) (by kernel_rfl) (fun _ _ _ h => h) rfl (by assumption) ?_ ?_
        · intro w hSw; (first | (go_simp; done) | (go_simp; with_reducible rfl) | (go_simp; rfl) | (go_simp; omega) | (go_simp; assumption) | (go_simp; simp; omega))
        (try simp only [Act.put, List.setIfInBounds_toArray, List.set_cons_zero, List.set_cons_succ])
        refine rg_skip (i := 9) rfl (by kernel_rfl) (by kernel_rfl) (by kernel_rfl) (fun _ _ _ h => h) (by kernel_rfl) (by assumption) ?_
        (try simp only [Act.put, List.setIfInBounds_toArray, List.set_cons_zero, List.set_cons_succ])
        refine rg_skip (i := 10) rfl (by kernel_rfl) (by kernel_rfl) (by kernel_rfl) (fun _ _ _ h => h) (by kernel_rfl) (by assumption) ?_
        (try simp only [Act.put, List.setIfInBounds_toArray, List.set_cons_zero, List.set_cons_succ])
        refine rg_skip (i := 11) rfl (by kernel_rfl) (by kernel_rfl) (by kernel_rfl) (fun _ _ _ h => h) (by kernel_rfl) (by assumption) ?_
        (try simp only [Act.put, List.setIfInBounds_toArray, List.set_cons_zero, List.set_cons_succ])
        refine rg_skip (i := 12) rfl (by kernel_rfl) (by kernel_rfl) (by kernel_rfl) (fun _ _ _ h => h) (by kernel_rfl) (by assumption) ?_
        (try simp only [Act.put, List.setIfInBounds_toArray, List.set_cons_zero, List.set_cons_succ])
        refine rg_skip (i := 13) rfl (by kernel_rfl) (by kernel_rfl) (by kernel_rfl) (fun _ _ _ h => h) (by kernel_rfl) (by assumption) ?_
        (try simp only [Act.put, List.setIfInBounds_toArray, List.set_cons_zero, List.set_cons_succ])
        refine rg_skip (i := 14) rfl (by kernel_rfl) (by kernel_rfl) (by kernel_rfl) (fun _ _ _ h => h) (by kernel_rfl) (by assumption) ?_
        (try simp only [Act.put, List.setIfInBounds_toArray, List.set_cons_zero, List.set_cons_succ])
        refine rg_skip (i := 15) rfl (by kernel_rfl) (by kernel_rfl) (by kernel_rfl) (fun _ _ _ h => h) (by kernel_rfl) (by assumption) ?_
        (try simp only [Act.put, List.setIfInBounds_toArray, List.set_cons_zero, List.set_cons_succ])
        refine rg_skip (i := 16) rfl (by kernel_rfl) (by kernel_rfl) (by kernel_rfl) (fun _ _ _ h => h) (by kernel_rfl) (by assumption) ?_
        (try simp only [Act.put, List.setIfInBounds_toArray, List.set_cons_zero, List.set_cons_succ])
        refine rg_skip (i := 17) rfl (by kernel_rfl) (by kernel_rfl) (by kernel_rfl) (fun _ _ _ h => h) (by kernel_rfl) (by assumption) ?_
        (try simp only [Act.put, List.setIfInBounds_toArray, List.set_cons_zero, List.set_cons_succ])
        refine rg_take (i := 18) (v := .bool false) rfl (by kernel_rfl) (by kernel_rfl) (by kernel_rfl) (fun _ _ _ h => h) rfl (by assumption) ?_ ?_
        · intro w hSw; (first | (go_simp; done) | (go_simp; with_reducible rfl) | (go_simp; rfl) | (go_simp; omega) | (go_simp; assumption) | (go_simp; simp; omega))
        (try simp only [Act.put, List.setIfInBounds_toArray, List.set_cons_zero, List.set_cons_succ])
        refine rg_done (by kernel_rfl) ?_
        refine hK9.out _ _ ?_
        clear hK9 K9
        refine wp_cond_false rfl ?_
        refine wp_skip ?_
        refine (by assumption : ∀ a' w', Met _ a' w' → _) _ _ ?_
        go_meet
        case rel => exact hsr7.pick (by (repeat (first | exact Pick.nil _ | exact Pick.tail _ | exact Out.here _ | apply Out.there | apply Pick.cons | apply Pick.drop)))
  case first =>
    by_cases hea : ea = 0
    · subst hea
      by_cases heb : eb = 0
      · subst heb
        have h := h44.out rfl rfl
        refine wk_seq (fun K4 hK4 => ?_)
        refine wk_reg ?_
        refine pl_take (v := ?_) rfl ?_ ?_
        rotate_left
        · (first | (go_simp; done) | (go_simp; with_reducible rfl) | (go_simp; rfl) | (go_simp; omega) | (go_simp; assumption) | (go_simp; simp; omega))
        (try simp only [Act.put, List.setIfInBounds_toArray, List.set_cons_zero, List.set_cons_succ])
        refine pl_eff rfl (fun Kp hKp => ?_)
        go_simp
        ((refine (errnum_spec _).mono ?_); rintro e28 w28 ⟨rfl, rfl⟩)
        (try go_wp2_with fail)
        refine hKp.out _ _ ?_
        clear hKp Kp
        (try simp only [Act.put, List.setIfInBounds_toArray, List.set_cons_zero, List.set_cons_succ])
        refine pl_take (v := .bool true) rfl ?_ ?_
        · (first | (go_simp; done) | (go_simp; with_reducible rfl) | (go_simp; rfl) | (go_simp; omega) | (go_simp; assumption) | (go_simp; simp; omega))
        (try simp only [Act.put, List.setIfInBounds_toArray, List.set_cons_zero, List.set_cons_succ])
        refine pl_take (v := .bool true) rfl ?_ ?_
        · (first | (go_simp; done) | (go_simp; with_reducible rfl) | (go_simp; rfl) | (go_simp; omega) | (go_simp; assumption) | (go_simp; simp; omega))
        (try simp only [Act.put, List.setIfInBounds_toArray, List.set_cons_zero, List.set_cons_succ])
        refine pl_take (v := ?_) (by kernel_rfl) ?_ ?_
        rotate_left
        · (first | (go_simp; done) | (go_simp; with_reducible rfl) | (go_simp; rfl) | (go_simp; omega) | (go_simp; assumption) | (go_simp; simp; omega))
        (try simp only [Act.put, List.setIfInBounds_toArray, List.set_cons_zero, List.set_cons_succ])
        refine pl_eff (by kernel_rfl) (fun Kp hKp => ?_)
        go_simp
        ((refine (errnum_spec _).mono ?_); rintro e32 w32 ⟨rfl, rfl⟩)
        (try go_wp2_with fail)
        refine hKp.out _ _ ?_
        clear hKp Kp
        (try simp only [Act.put, List.setIfInBounds_toArray, List.set_cons_zero, List.set_cons_succ])
        refine pl_take (v := .bool true) (by kernel_rfl) ?_ ?_
        · (first | (go_simp; done) | (go_simp; with_reducible rfl) | (go_simp; rfl) | (go_simp; omega) | (go_simp; assumption) | (go_simp; simp; omega))
        (try simp only [Act.put, List.setIfInBounds_toArray, List.set_cons_zero, List.set_cons_succ])
        refine pl_take (v := .bool true) rfl ?_ ?_
        · (first | (go_simp; done) | (go_simp; with_reducible rfl) | (go_simp; rfl) | (go_simp; omega) | (go_simp; assumption) | (go_simp; simp; omega))
        (try simp only [Act.put, List.setIfInBounds_toArray, List.set_cons_zero, List.set_cons_succ])
        refine pl_take (v := .bool true) rfl ?_ ?_
        · (first | (go_simp; done) | (go_simp; with_reducible rfl) | (go_simp; rfl) | (go_simp; omega) | (go_simp; assumption) | (go_simp; simp; omega))
        (try simp only [Act.put, List.setIfInBounds_toArray, List.set_cons_zero, List.set_cons_succ])
        refine pl_take (v := ?_) (by kernel_rfl) ?_ ?_
        rotate_left
        · (first | (go_simp; done) | (go_simp; with_reducible rfl) | (go_simp; rfl) | (go_simp; omega) | (go_simp; assumption) | (go_simp; simp; omega))
        (try simp only [Act.put, List.setIfInBounds_toArray, List.set_cons_zero, List.set_cons_succ])
        refine pl_take (v := ?_) (by kernel_rfl) ?_ ?_
        rotate_left
        · (first | ((with_reducible apply yl_b2s); assumption; rfl; (repeat (first | with_reducible assumption | with_reducible exact Rd.own | with_reducible exact Rd.nil | with_reducible apply Rd.cons)); rfl) | (first | (go_simp; done) | (go_simp; with_reducible rfl) | (go_simp; rfl) | (go_simp; omega) | (go_simp; assumption) | (go_simp; simp; omega)))
        (try simp only [Act.put, List.setIfInBounds_toArray, List.set_cons_zero, List.set_cons_succ])
        refine pl_take (v := ?_) (by kernel_rfl) ?_ ?_
        rotate_left
        · (first | (go_simp; done) | (go_simp; with_reducible rfl) | (go_simp; rfl) | (go_simp; omega) | (go_simp; assumption) | (go_simp; simp; omega))
        (try simp only [Act.put, List.setIfInBounds_toArray, List.set_cons_zero, List.set_cons_succ])
        refine pl_take (v := ?_) (by kernel_rfl) ?_ ?_
        rotate_left
        · (first | ((with_reducible apply yl_b2s); assumption; rfl; (repeat (first | with_reducible assumption | with_reducible exact Rd.own | with_reducible exact Rd.nil | with_reducible apply Rd.cons)); rfl) | (first | (go_simp; done) | (go_simp; with_reducible rfl) | (go_simp; rfl) | (go_simp; omega) | (go_simp; assumption) | (go_simp; simp; omega)))
        (try simp only [Act.put, List.setIfInBounds_toArray, List.set_cons_zero, List.set_cons_succ])
        refine pl_take (v := ?_) (by kernel_rfl) ?_ ?_
        rotate_left
        · (first | (go_simp; done) | (go_simp; with_reducible rfl) | (go_simp; rfl) | (go_simp; omega) | (go_simp; assumption) | (go_simp; simp; omega))
        (try simp only [Act.put, List.setIfInBounds_toArray, List.set_cons_zero, List.set_cons_succ])
        refine pl_take (v := ?_) (by kernel_rfl) ?_ ?_
        rotate_left
        · (first | (go_simp; done) | (go_simp; with_reducible rfl) | (go_simp; rfl) | (go_simp; omega) | (go_simp; assumption) | (go_simp; simp; omega))
        (try simp only [Act.put, List.setIfInBounds_toArray, List.set_cons_zero, List.set_cons_succ])
        refine pl_take (v := ?_) (by kernel_rfl) ?_ ?_
        rotate_left
        · (first | (go_simp; done) | (go_simp; with_reducible rfl) | (go_simp; rfl) | (go_simp; omega) | (go_simp; assumption) | (go_simp; simp; omega))
        (try simp only [Act.put, List.setIfInBounds_toArray, List.set_cons_zero, List.set_cons_succ])
        refine pl_take (v := ?_) (by kernel_rfl) ?_ ?_
        rotate_left
        · (first | (go_simp; done) | (go_simp; with_reducible rfl) | (go_simp; rfl) | (go_simp; omega) | (go_simp; assumption) | (go_simp; simp; omega))
        (try simp only [Act.put, List.setIfInBounds_toArray, List.set_cons_zero, List.set_cons_succ])
        refine pl_take (v := .bool false) (by kernel_rfl) ?_ ?_
        · (first | (go_simp; done) | (go_simp; with_reducible rfl) | (go_simp; rfl) | (go_simp; omega) | (go_simp; assumption) | (go_simp; simp; omega))
        (try simp only [Act.put, List.setIfInBounds_toArray, List.set_cons_zero, List.set_cons_succ])
        refine pl_take (v := .bool false) rfl ?_ ?_
        · (first | (go_simp; done) | (go_simp; with_reducible rfl) | (go_simp; rfl) | (go_simp; omega) | (go_simp; assumption) | (go_simp; simp; omega))
        (try simp only [Act.put, List.setIfInBounds_toArray, List.set_cons_zero, List.set_cons_succ])
        refine pl_done ?_
        refine hK4.out _ _ ?_
        clear hK4 K4
        refine wp_cond_false rfl ?_
        refine wp_skip ?_
        refine (by assumption : ∀ a' w', Met _ a' w' → _) _ _ ?_
        go_meet
        case rel => exact hs24.pick (by (repeat (first | exact Pick.nil _ | exact Pick.tail _ | exact Out.here _ | apply Out.there | apply Pick.cons | apply Pick.drop)))
      · have heb1 : (eb == 0) = false := by simp [heb]
        clear heb
        refine wk_seq (fun K4 hK4 => ?_)
        refine wk_reg ?_
        refine pl_take (v := ?_) rfl ?_ ?_
        rotate_left
        · (first | (go_simp; done) | (go_simp; with_reducible rfl) | (go_simp; rfl) | (go_simp; omega) | (go_simp; assumption) | (go_simp; simp; omega))
        (try simp only [Act.put, List.setIfInBounds_toArray, List.set_cons_zero, List.set_cons_succ])
        refine pl_eff rfl (fun Kp hKp => ?_)
        go_simp
        ((refine (errnum_spec _).mono ?_); rintro e28 w28 ⟨rfl, rfl⟩)
        (try go_wp2_with fail)
        refine hKp.out _ _ ?_
        clear hKp Kp
        (try simp only [Act.put, List.setIfInBounds_toArray, List.set_cons_zero, List.set_cons_succ])
        refine pl_take (v := .bool true) rfl ?_ ?_
        · (first | (go_simp; done) | (go_simp; with_reducible rfl) | (go_simp; rfl) | (go_simp; omega) | (go_simp; assumption) | (go_simp; simp; omega))
        (try simp only [Act.put, List.setIfInBounds_toArray, List.set_cons_zero, List.set_cons_succ])
        refine pl_take (v := .bool true) rfl ?_ ?_
        · (first | (go_simp; done) | (go_simp; with_reducible rfl) | (go_simp; rfl) | (go_simp; omega) | (go_simp; assumption) | (go_simp; simp; omega))
        (try simp only [Act.put, List.setIfInBounds_toArray, List.set_cons_zero, List.set_cons_succ])
        refine pl_take (v := ?_) (by kernel_rfl) ?_ ?_
        rotate_left
        · (first | (go_simp; done) | (go_simp; with_reducible rfl) | (go_simp; rfl) | (go_simp; omega) | (go_simp; assumption) | (go_simp; simp; omega))
        (try simp only [Act.put, List.setIfInBounds_toArray, List.set_cons_zero, List.set_cons_succ])
        refine pl_eff (by kernel_rfl) (fun Kp hKp => ?_)
        go_simp
        ((refine (errnum_spec _).mono ?_); rintro e32 w32 ⟨rfl, rfl⟩)
        (try go_wp2_with fail)
        refine hKp.out _ _ ?_
        clear hKp Kp
        (try simp only [Act.put, List.setIfInBounds_toArray, List.set_cons_zero, List.set_cons_succ])
        refine pl_take (v := .bool false) (by kernel_rfl) ?_ ?_
        · (first | (go_simp; done) | (go_simp; with_reducible rfl) | (go_simp; rfl) | (go_simp; omega) | (go_simp; assumption) | (go_simp; simp; omega))
        (try simp only [Act.put, List.setIfInBounds_toArray, List.set_cons_zero, List.set_cons_succ])
        refine pl_take (v := .bool false) rfl ?_ ?_
        · (first | (go_simp; done) | (go_simp; with_reducible rfl) | (go_simp; rfl) | (go_simp; omega) | (go_simp; assumption) | (go_simp; simp; omega))
        (try simp only [Act.put, List.setIfInBounds_toArray, List.set_cons_zero, List.set_cons_succ])
        refine pl_take (v := .bool false) rfl ?_ ?_
        · (first | (go_simp; done) | (go_simp; with_reducible rfl) | (go_simp; rfl) | (go_simp; omega) | (go_simp; assumption) | (go_simp; simp; omega))
        (try simp only [Act.put, List.setIfInBounds_toArray, List.set_cons_zero, List.set_cons_succ])
        refine pl_skip (by kernel_rfl) ?_
        (try simp only [Act.put, List.setIfInBounds_toArray, List.set_cons_zero, List.set_cons_succ])
        refine pl_skip (by kernel_rfl) ?_
        (try simp only [Act.put, List.setIfInBounds_toArray, List.set_cons_zero, List.set_cons_succ])
        refine pl_skip (by kernel_rfl) ?_
        (try simp only [Act.put, List.setIfInBounds_toArray, List.set_cons_zero, List.set_cons_succ])
        refine pl_skip (by kernel_rfl) ?_
        (try simp only [Act.put, List.setIfInBounds_toArray, List.set_cons_zero, List.set_cons_succ])
        refine pl_skip (by kernel_rfl) ?_
        (try simp only [Act.put, List.setIfInBounds_toArray, List.set_cons_zero, List.set_cons_succ])
        refine pl_skip (by kernel_rfl) ?_
        (try simp only [Act.put, List.setIfInBounds_toArray, List.set_cons_zero, List.set_cons_succ])
        refine pl_skip (by kernel_rfl) ?_
        (try simp only [Act.put, List.setIfInBounds_toArray, List.set_cons_zero, List.set_cons_succ])
        refine pl_skip (by kernel_rfl) ?_
        (try simp only [Act.put, List.setIfInBounds_toArray, List.set_cons_zero, List.set_cons_succ])
        refine pl_skip (by kernel_rfl) ?_
        (try simp only [Act.put, List.setIfInBounds_toArray, List.set_cons_zero, List.set_cons_succ])
        refine pl_take (v := .bool false) rfl ?_ ?_
        · (first | (go_simp; done) | (go_simp; with_reducible rfl) | (go_simp; rfl) | (go_simp; omega) | (go_simp; assumption) | (go_simp; simp; omega))
        (try simp only [Act.put, List.setIfInBounds_toArray, List.set_cons_zero, List.set_cons_succ])
        refine pl_done ?_
        refine hK4.out _ _ ?_
        clear hK4 K4
        refine wp_cond_false rfl ?_
        refine wp_skip ?_
        refine (by assumption : ∀ a' w', Met _ a' w' → _) _ _ ?_
        go_meet
        case rel => exact hs24.pick (by (repeat (first | exact Pick.nil _ | exact Pick.tail _ | exact Out.here _ | apply Out.there | apply Pick.cons | apply Pick.drop)))
    · have hea1 : (ea == 0) = false := by simp [hea]
      clear hea
      refine wk_seq (fun K4 hK4 => ?_)
      refine wk_reg ?_
      refine pl_take (v := ?_) rfl ?_ ?_
      rotate_left
      · (first | (go_simp; done) | (go_simp; with_reducible rfl) | (go_simp; rfl) | (go_simp; omega) | (go_simp; assumption) | (go_simp; simp; omega))
      (try simp only [Act.put, List.setIfInBounds_toArray, List.set_cons_zero, List.set_cons_succ])
      refine pl_eff rfl (fun Kp hKp => ?_)
      go_simp
      ((refine (errnum_spec _).mono ?_); rintro e28 w28 ⟨rfl, rfl⟩)
      (try go_wp2_with fail)
      refine hKp.out _ _ ?_
      clear hKp Kp
      (try simp only [Act.put, List.setIfInBounds_toArray, List.set_cons_zero, List.set_cons_succ])
      refine pl_take (v := .bool false) rfl ?_ ?_
      · (first | (go_simp; done) | (go_simp; with_reducible rfl) | (go_simp; rfl) | (go_simp; omega) | (go_simp; assumption) | (go_simp; simp; omega))
      (try simp only [Act.put, List.setIfInBounds_toArray, List.set_cons_zero, List.set_cons_succ])
      refine pl_take (v := .bool false) rfl ?_ ?_
      · (first | (go_simp; done) | (go_simp; with_reducible rfl) | (go_simp; rfl) | (go_simp; omega) | (go_simp; assumption) | (go_simp; simp; omega))
      (try simp only [Act.put, List.setIfInBounds_toArray, List.set_cons_zero, List.set_cons_succ])
      refine pl_skip (by kernel_rfl) ?_
      (try simp only [Act.put, List.setIfInBounds_toArray, List.set_cons_zero, List.set_cons_succ])
      refine pl_skip (by kernel_rfl) ?_
      (try simp only [Act.put, List.setIfInBounds_toArray, List.set_cons_zero, List.set_cons_succ])
      refine pl_skip (by kernel_rfl) ?_
      (try simp only [Act.put, List.setIfInBounds_toArray, List.set_cons_zero, List.set_cons_succ])
      refine pl_take (v := .bool false) rfl ?_ ?_
      · (first | (go_simp; done) | (go_simp; with_reducible rfl) | (go_simp; rfl) | (go_simp; omega) | (go_simp; assumption) | (go_simp; simp; omega))
      (try simp only [Act.put, List.setIfInBounds_toArray, List.set_cons_zero, List.set_cons_succ])
      refine pl_take (v := .bool false) rfl ?_ ?_
      · (first | (go_simp; done) | (go_simp; with_reducible rfl) | (go_simp; rfl) | (go_simp; omega) | (go_simp; assumption) | (go_simp; simp; omega))
      (try simp only [Act.put, List.setIfInBounds_toArray, List.set_cons_zero, List.set_cons_succ])
      refine pl_skip (by kernel_rfl) ?_
      (try simp only [Act.put, List.setIfInBounds_toArray, List.set_cons_zero, List.set_cons_succ])
      refine pl_skip (by kernel_rfl) ?_
      (try simp only [Act.put, List.setIfInBounds_toArray, List.set_cons_zero, List.set_cons_succ])
      refine pl_skip (by kernel_rfl) ?_
      (try simp only [Act.put, List.setIfInBounds_toArray, List.set_cons_zero, List.set_cons_succ])
      refine pl_skip (by kernel_rfl) ?_
      (try simp only [Act.put, List.setIfInBounds_toArray, List.set_cons_zero, List.set_cons_succ])
      refine pl_skip (by kernel_rfl) ?_
      (try simp only [Act.put, List.setIfInBounds_toArray, List.set_cons_zero, List.set_cons_succ])
      refine pl_skip (by kernel_rfl) ?_
      (try simp only [Act.put, List.setIfInBounds_toArray, List.set_cons_zero, List.set_cons_succ])
      refine pl_skip (by kernel_rfl) ?_
      (try simp only [Act.put, List.setIfInBounds_toArray, List.set_cons_zero, List.set_cons_succ])
      refine pl_skip (by kernel_rfl) ?_
      (try simp only [Act.put, List.setIfInBounds_toArray, List.set_cons_zero, List.set_cons_succ])
      refine pl_skip (by kernel_rfl) ?_
      (try simp only [Act.put, List.setIfInBounds_toArray, List.set_cons_zero, List.set_cons_succ])
      refine pl_take (v := .bool false) rfl ?_ ?_
      · (first | (go_simp; done) | (go_simp; with_reducible rfl) | (go_simp; rfl) | (go_simp; omega) | (go_simp; assumption) | (go_simp; simp; omega))
      (try simp only [Act.put, List.setIfInBounds_toArray, List.set_cons_zero, List.set_cons_succ])
      refine pl_done ?_
      refine hK4.out _ _ ?_
      clear hK4 K4
      refine wp_cond_false rfl ?_
      refine wp_skip ?_
      refine (by assumption : ∀ a' w', Met _ a' w' → _) _ _ ?_
      go_meet
      case rel => exact hs24.pick (by (repeat (first | exact Pick.nil _ | exact Pick.tail _ | exact Out.here _ | apply Out.there | apply Pick.cons | apply Pick.drop)))
end Go.Proofs.Ytaenimnjaekmmaa
