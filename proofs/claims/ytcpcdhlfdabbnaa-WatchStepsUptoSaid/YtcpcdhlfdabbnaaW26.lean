/-
  Lists of servers that jump: Steps of the program, and the document's.
-/
import Derived.Test.YtcpcdhlfdabbnaaW25
import Derived.Test.YtcpcdhlfdabbnaaW17
namespace Go.Proofs.Ytcpcdhlfdabbnaa
open Go Go.RowKit Sl Go.Shelf
set_option maxHeartbeats 20000000
set_option maxRecDepth 8000

def stepsGo : List Ent → List Int → Bool → Int
  | [], _, _ => 0
  | x :: l, now, sm => if x.k = 3 then (if sm && !besideP now (getServers x.d).1 then x.i else stepsGo l (getServers x.d).1 true) else stepsGo l now sm
def stepsV (v : Vw) (base : List Int) : Int := stepsGo (wholeV v).l base (okServers base)

theorem stepsGo_at {l : List Ent} {k : Nat} {x : Ent} (h : l[k]? = some x) (now : List Int) (sm : Bool) :
    stepsGo (l.drop k) now sm = if x.k = 3 then (if sm && !besideP now (getServers x.d).1 then x.i else stepsGo (l.drop (k + 1)) (getServers x.d).1 true) else stepsGo (l.drop (k + 1)) now sm := by
  rw [drop_at' h]; rfl

theorem stepsW_spec {w0 w : World} {L : List HP} {A B : Option Addr} {c d m : Nat} (vb vt : Int) (vl : List Ent) (base : List Int) (hm : Hid (m = base.length)) (hml : m ≤ 1048576) (hvl : vl.length ≤ 1048576) (hvd : ∀ x ∈ vl, x.d.length ≤ 1048576) (hs : Sat w0 w L)
    (hE : SlV EntV 4 (Rd w0 L) [.slice A vl.length c] vl) (hB : Rd w0 L B m 1 (I8 base)) :
    Calls Try.prog 26 #[.agg #[.int .i64 vb, .int .i64 vt, .slice A vl.length c], .slice B m d] w (fun e w' => e = .returned (.int .i64 (stepsV ⟨vb, vt, vl⟩ base)) ∧ Sat w0 w' L) := by
  obtain ⟨q1, q2, q3, q4⟩ := wholeV_ok ⟨vb, vt, vl⟩
  have hwd : ∀ x ∈ (wholeV ⟨vb, vt, vl⟩).l, x.d.length ≤ 1048576 := fun x hx => by
    rcases wholeV_or ⟨vb, vt, vl⟩ with h | h
    · rw [h] at hx; exact hvd x hx
    · rw [h] at hx; cases hx
  have hW := fun (w : World) (L' : List HP) (hs : Sat w0 w L') (hp : Pick L' L) => wholeP vb vt vl hvl hvd hs hp hE
  have hRt := fun (w : World) (L' : List HP) (hs : Sat w0 w L') (h : Rd w0 L' B m 1 (I8 base)) => rightC_spec (c := d) base hm hml hs h
  obtain ⟨R, hR⟩ : ∃ R, stepsV ⟨vb, vt, vl⟩ base = R := ⟨_, rfl⟩
  rw [hR]
  unfold stepsV at hR
  obtain ⟨⟨wb, wt, wl⟩, ha⟩ : ∃ v, wholeV ⟨vb, vt, vl⟩ = v := ⟨_, rfl⟩
  obtain ⟨ok, hok⟩ : ∃ ok, okServers base = ok := ⟨_, rfl⟩
  rw [ha] at q3 hW hR hwd
  rw [hok] at hR hRt
  simp only at q3 hR hwd
  have HR := Hid.mk' hR
  clear q1 q2 q4 ha hR hok
  go_enter Try.func26, Try.ntmps26
  refine wk_seq (fun K0 hK0 => ?_)
  refine wk_reg ?_
  refine pl_eff rfl (fun Kp hKp => ?_)
  ((with_reducible apply st_box); assumption; (go_simp; rfl); intro b2 w2 hs2; simp only [Value.cells] at hs2)
  refine hKp.out _ _ ?_
  clear hKp Kp
  (try simp only [Act.put, aP, aZ, aS])
  refine pl_take (v := ?_) rfl ?_ ?_
  rotate_left
  · (go_simp; first | done | with_reducible rfl | rfl | omega | assumption | (simp; omega))
  (try simp only [Act.put, aP, aZ, aS])
  refine pl_done ?_
  refine hK0.out _ _ ?_
  (try clear hK0 K0)
  refine wk_seq (fun K1 hK1 => ?_)
  refine wk_reg ?_
  iterate 2 (refine pl_take (v := ?_) rfl ?_ ?_; rotate_left; (· (go_simp; first | done | with_reducible rfl | rfl | omega | assumption | (simp; omega))); (try simp only [Act.put, aP, aZ, aS]))
  refine pl_eff rfl (fun Kp hKp => ?_)
  go_simp
  (refine (hRt _ _ (by assumption) (by (repeat (first | with_reducible assumption | with_reducible exact Rd.own | with_reducible exact Rd.nil | with_reducible apply Rd.cons)))).mono ?_; rintro e13 w13 ⟨rfl, hs13⟩)
  (try go_wp2_with fail)
  refine hKp.out _ _ ?_
  clear hKp Kp
  (try simp only [Act.put, aP, aZ, aS])
  iterate 2 (refine pl_take (v := ?_) rfl ?_ ?_; rotate_left; (· (go_simp; first | done | with_reducible rfl | rfl | omega | assumption | (simp; omega))); (try simp only [Act.put, aP, aZ, aS]))
  refine pl_done ?_
  refine hK1.out _ _ ?_
  (try clear hK1 K1)
  refine wk_seq (fun K2 hK2 => ?_)
  refine wk_seq (fun K3 hK3 => ?_)
  refine wk_reg ?_
  refine pl_take (v := ?_) rfl ?_ ?_
  rotate_left
  · (first | ((with_reducible apply yl_loadAgg); assumption; rfl; (repeat (first | with_reducible exact Out.here _ | apply Out.there)); (simp); rfl; rfl) | ((with_reducible apply yl_loadAggR); assumption; rfl; (repeat (first | with_reducible assumption | with_reducible exact Rd.own | with_reducible exact Rd.nil | with_reducible apply Rd.cons)); rfl))
  (try simp only [Act.put, aP, aZ, aS])
  refine pl_eff rfl (fun Kp hKp => ?_)
  go_simp
  (refine (hW _ _ (by assumption) (by (repeat (first | exact Pick.nil _ | exact Pick.tail _ | exact Out.here _ | apply Out.there | apply Pick.cons | apply Pick.drop)))).mono ?_; rintro e15 w15 ⟨WA, wca, rfl, hEA, hs15⟩; simp only at hEA ⊢)
  (try go_wp2_with fail)
  refine hKp.out _ _ ?_
  clear hKp Kp
  (try simp only [Act.put, aP, aZ, aS])
  refine pl_take (v := (.slice WA wl.length wca)) rfl ?_ ?_
  · (go_simp; first | done | with_reducible rfl | rfl | omega | assumption | (simp; omega))
  (try simp only [Act.put, aP, aZ, aS])
  iterate 2 (refine pl_take (v := ?_) rfl ?_ ?_; rotate_left; (· (go_simp; first | done | with_reducible rfl | rfl | omega | assumption | (simp; omega))); (try simp only [Act.put, aP, aZ, aS]))
  refine pl_done ?_
  refine hK3.out _ _ ?_
  (try clear hK3 K3)
  refine wp_block ?_
  -- at a loop
  obtain ⟨WA', wca', vs, he1, hRv, hvl', hel⟩ := hEA
  simp only [List.cons.injEq, Value.slice.injEq, and_true, true_and] at he1
  obtain ⟨rfl, rfl⟩ := he1
  go_loopw [5, 6, 18] (fun s5 s6 s18 wr => ∃ (k n c : Nat) (sm : Bool) (now : List Int) (X : Option Addr) (N : HP), s5 = .slice X n c ∧ s6 = .bool sm ∧ s18 = .int .i64 k ∧ k ≤ wl.length ∧ n ≤ 1048576 ∧ Hid (n = now.length) ∧ Hid (R = stepsGo (wl.drop k) now sm) ∧ Rd w0 (N :: L) X n 1 (I8 now) ∧ Sat w0 wr (N :: L)) (fun _ _ s18 _ => wl.length - (intOf s18).toNat)
  case atStart => exact ⟨0, m, d, ok, base, B, SatH [], rfl, rfl, rfl, Nat.zero_le _, hml, hm, by unfold Hid; rw [← HR.out]; rfl, hB.cons, ((by assumption : Sat w0 w15 _).pick (T := L) (by (repeat (first | exact Pick.nil _ | exact Pick.tail _ | exact Out.here _ | apply Out.there | apply Pick.cons | apply Pick.drop)))).bag_nil⟩
  case round =>
    obtain ⟨k, n, c', sm, now, X, N, rfl, rfl, rfl, hk, hn, Hn, Hg, hX, hsC⟩ := hrel
    clear hRt hW
    by_cases hlt : k < wl.length
    · obtain ⟨x, hx⟩ : ∃ x, wl[k]? = some x := ⟨wl[k], List.getElem?_eq_getElem hlt⟩
      obtain ⟨⟨Ax, cx, ex, hrx⟩, _⟩ := hel k x hx
      obtain ⟨ga, oa, rfl⟩ := hRv.some_of (hsC.tail) (by omega)
      have hrow := hRv.row_at k hlt
      rw [ex] at hrow
      have hxl := hwd x (List.mem_of_getElem? hx)
      have Hx : Hid (R = if x.k = 3 then (if sm && !besideP now (getServers x.d).1 then x.i else stepsGo (wl.drop (k + 1)) (getServers x.d).1 true) else stepsGo (wl.drop (k + 1)) now sm) := by unfold Hid; rw [Hg.out, stepsGo_at hx]
      obtain ⟨et, ei, q, b⟩ := x
      simp only at hrow hrx hxl
      unfold Hid at Hx
      simp only at Hx
      have i0 : (0 : Int) ≤ (k : Int) := by omega
      have i1 : (k : Int) < (wl.length : Int) := by omega
      have hwk : IntKind.i64.wrap ((k : Int) + 1) = (k : Int) + 1 := IntWalk.i64_in _ (by omega)
      clear ex hel hx
      by_cases hq : q = 3
      · subst hq
        have hG := fun (w : World) (L' : List HP) (hs : Sat w0 w L') (h : Rd w0 L' Ax b.length 1 (B8 b)) => getServers_spec (c := cx) b (by omega) hs h
        have hgs := fun (ys : List Int) (g : Int) (h : getServers b = (ys, g)) => getServers_small h
        rw [if_pos rfl] at Hx
        obtain ⟨⟨nx, eg⟩, hnx⟩ : ∃ z, getServers b = z := ⟨_, rfl⟩
        have hnl := hgs _ _ hnx
        rw [hnx] at hG Hx
        simp only at Hx
        have Hx' := Hid.mk' Hx
        clear Hx hnx hgs
        have hB2 := fun (Y : Option Addr) (qn qc : Nat) (hq : Hid (qn = nx.length)) (w : World) (L' : List HP) (hs : Sat w0 w L') (h1 : Rd w0 L' X n 1 (I8 now)) (h2 : Rd w0 L' Y qn 1 (I8 nx)) => besideC_spec (c := c') (d := qc) now nx Hn hq hn (by rw [hq.out]; omega) hs h1 h2
        obtain ⟨bs, hbs⟩ : ∃ bs, besideP now nx = bs := ⟨_, rfl⟩
        have Hx2 : Hid (R = if sm && !bs then ei else stepsGo (wl.drop (k + 1)) nx true) := by unfold Hid; rw [← hbs]; exact Hx'.out
        rw [hbs] at hB2
        clear hbs Hx'
        cases sm with
        | false =>
          refine wk_seq (fun K4 hK4 => ?_)
          refine wk_reg ?_
          refine pl_take (v := .bool true) rfl ?_ ?_
          · (go_simp; first | done | with_reducible rfl | rfl | omega | assumption | (simp; omega))
          (try simp only [Act.put, aP, aZ, aS])
          refine pl_done ?_
          refine hK4.out _ _ ?_
          (try clear hK4 K4)
          refine wk_seq (fun K5 hK5 => ?_)
          refine wp_cond_true rfl ?_
          refine wp_skip ?_
          refine hK5.out _ _ ?_
          (try clear hK5 K5)
          refine wk_seq (fun K6 hK6 => ?_)
          refine wp_block ?_
          refine wk_seq (fun K7 hK7 => ?_)
          refine wk_reg ?_
          iterate 2 (refine pl_take (v := ?_) rfl ?_ ?_; rotate_left; (· (first | (first | ((with_reducible apply yl_loadAgg); assumption; rfl; (repeat (first | with_reducible exact Out.here _ | apply Out.there)); (simp); rfl; rfl) | ((with_reducible apply yl_loadAggR); assumption; rfl; (repeat (first | with_reducible assumption | with_reducible exact Rd.own | with_reducible exact Rd.nil | with_reducible apply Rd.cons)); rfl)) | (go_simp; first | done | with_reducible rfl | rfl | omega | assumption | (simp; omega)))); (try simp only [Act.put, aP, aZ, aS]))
          refine pl_eff rfl (fun Kp hKp => ?_)
          ((with_reducible apply st_alloc); assumption; intro b8 w8 hs8; simp only [Value.cells] at hs8)
          refine hKp.out _ _ ?_
          clear hKp Kp
          (try simp only [Act.put, aP, aZ, aS])
          refine pl_eff rfl (fun Kp hKp => ?_)
          (first | ((with_reducible apply st_storeAll); assumption; rfl; (go_simp; rfl); (repeat (first | with_reducible exact Out.here _ | apply Out.there)); rfl; (focus (first | (simp [Value.oneCell']; done) | (simp [Value.cells, Value.oneCell']; done))); rfl; intro wr4_3 hsr4_3; simp only [Value.cells] at hsr4_3) | ((with_reducible apply st_store); assumption; rfl; (go_simp; rfl); (repeat (first | with_reducible exact Out.here _ | apply Out.there)); rfl; (first | (focus (simp [Value.oneCell']; done)) | (simp [Value.cells, Value.oneCell'])); (first | (focus (simp; done)) | (simp [Value.cells])); intro wr4_3 hsr4_3; simp only [upd, Value.cells] at hsr4_3))
          refine hKp.out _ _ ?_
          clear hKp Kp
          (try dsimp only [Act.put])
          refine pl_done ?_
          refine hK7.out _ _ ?_
          (try clear hK7 K7)
          refine wk_seq (fun K8 hK8 => ?_)
          refine wk_seq (fun K9 hK9 => ?_)
          refine wk_reg ?_
          iterate 2 (refine pl_take (v := ?_) rfl ?_ ?_; rotate_left; (· (first | ((with_reducible apply yl_load); assumption; rfl; (repeat (first | with_reducible assumption | ((with_reducible apply Cl.own); exact rfl) | ((with_reducible apply Cl.blkL); exact rfl) | with_reducible apply Cl.cons)); rfl) | (go_simp; first | done | with_reducible rfl | rfl | omega | assumption | (simp; omega)))); (try simp only [Act.put, aP, aZ, aS]))
          refine pl_take (v := .bool false) rfl ?_ ?_
          · (go_simp; first | done | with_reducible rfl | rfl | omega | assumption | (simp; omega))
          (try simp only [Act.put, aP, aZ, aS])
          refine pl_done ?_
          refine hK9.out _ _ ?_
          (try clear hK9 K9)
          refine wp_cond_false rfl ?_
          refine wp_skip ?_
          refine hK8.out _ _ ?_
          (try clear hK8 K8)
          refine wk_seq (fun K10 hK10 => ?_)
          refine wk_reg ?_
          iterate 2 (refine pl_take (v := ?_) rfl ?_ ?_; rotate_left; (· (first | ((with_reducible apply yl_load); assumption; rfl; (repeat (first | with_reducible assumption | ((with_reducible apply Cl.own); exact rfl) | ((with_reducible apply Cl.blkL); exact rfl) | with_reducible apply Cl.cons)); rfl) | (go_simp; first | done | with_reducible rfl | rfl | omega | assumption | (simp; omega)))); (try simp only [Act.put, aP, aZ, aS]))
          refine pl_eff rfl (fun Kp hKp => ?_)
          go_simp
          (refine (hG _ _ (by assumption) (by (repeat (first | with_reducible assumption | with_reducible exact Rd.own | with_reducible exact Rd.nil | with_reducible apply Rd.cons)))).mono ?_; rintro e28 w28 ⟨Y28, c28, q28, hq28, rfl, hs28⟩)
          (try go_wp2_with fail)
          refine hKp.out _ _ ?_
          clear hKp Kp
          (try simp only [Act.put, aP, aZ, aS])
          iterate 5 (refine pl_take (v := ?_) rfl ?_ ?_; rotate_left; (· (go_simp; first | done | with_reducible rfl | rfl | omega | assumption | (simp; omega))); (try simp only [Act.put, aP, aZ, aS]))
          refine pl_done ?_
          refine hK10.out _ _ ?_
          (try clear hK10 K10)
          refine wk_seq (fun K11 hK11 => ?_)
          refine wk_seq (fun K12 hK12 => ?_)
          refine wk_reg ?_
          iterate 2 (refine pl_take (v := .bool false) rfl ?_ ?_; (· (go_simp; first | done | with_reducible rfl | rfl | omega | assumption | (simp; omega))); (try simp only [Act.put, aP, aZ, aS]))
          iterate 4 (refine pl_skip (by kernel_rfl) ?_; (try simp only [Act.put, aP, aZ, aS]))
          refine pl_take (v := .bool false) rfl ?_ ?_
          · (go_simp; first | done | with_reducible rfl | rfl | omega | assumption | (simp; omega))
          (try simp only [Act.put, aP, aZ, aS])
          refine pl_done ?_
          refine hK12.out _ _ ?_
          (try clear hK12 K12)
          refine wp_cond_false rfl ?_
          refine wp_skip ?_
          refine hK11.out _ _ ?_
          (try clear hK11 K11)
          refine wk_reg ?_
          iterate 2 (refine pl_take (v := ?_) rfl ?_ ?_; rotate_left; (· (go_simp; first | done | with_reducible rfl | rfl | omega | assumption | (simp; omega))); (try simp only [Act.put, aP, aZ, aS]))
          refine pl_take (v := .bool true) rfl ?_ ?_
          · (go_simp; first | done | with_reducible rfl | rfl | omega | assumption | (simp; omega))
          (try simp only [Act.put, aP, aZ, aS])
          refine pl_done ?_
          refine hK6.out _ _ ?_
          (try clear hK6 K6)
          refine wk_reg ?_
          iterate 2 (refine pl_take (v := ?_) rfl ?_ ?_; rotate_left; (· (go_simp; first | done | with_reducible rfl | rfl | omega | assumption | (simp; omega))); (try simp only [Act.put, aP, aZ, aS]))
          refine pl_done ?_
          (try dsimp only [Exit.inBlock, Exit.then])
          go_roundw
          case rel => exact ⟨k + 1, q28, c28, true, nx, Y28, own 3 1 Y28 c28 q28 (I8 nx), by go_num, by go_num, by go_num, by omega, by rw [hq28.out]; omega, hq28, by unfold Hid; rw [Hx2.out]; rfl, Rd.own, (by assumption : Sat w0 _ _).pick (by (repeat (first | exact Pick.nil _ | exact Pick.tail _ | exact Out.here _ | apply Out.there | apply Pick.cons | apply Pick.drop)))⟩
          case measure => simp [intOf]; omega
        | true =>
          cases bs with
          | true =>
            refine wk_seq (fun K4 hK4 => ?_)
            refine wk_reg ?_
            refine pl_take (v := .bool true) rfl ?_ ?_
            · (go_simp; first | done | with_reducible rfl | rfl | omega | assumption | (simp; omega))
            (try simp only [Act.put, aP, aZ, aS])
            refine pl_done ?_
            refine hK4.out _ _ ?_
            (try clear hK4 K4)
            refine wk_seq (fun K5 hK5 => ?_)
            refine wp_cond_true rfl ?_
            refine wp_skip ?_
            refine hK5.out _ _ ?_
            (try clear hK5 K5)
            refine wk_seq (fun K6 hK6 => ?_)
            refine wp_block ?_
            refine wk_seq (fun K7 hK7 => ?_)
            refine wk_reg ?_
            iterate 2 (refine pl_take (v := ?_) rfl ?_ ?_; rotate_left; (· (first | (first | ((with_reducible apply yl_loadAgg); assumption; rfl; (repeat (first | with_reducible exact Out.here _ | apply Out.there)); (simp); rfl; rfl) | ((with_reducible apply yl_loadAggR); assumption; rfl; (repeat (first | with_reducible assumption | with_reducible exact Rd.own | with_reducible exact Rd.nil | with_reducible apply Rd.cons)); rfl)) | (go_simp; first | done | with_reducible rfl | rfl | omega | assumption | (simp; omega)))); (try simp only [Act.put, aP, aZ, aS]))
            refine pl_eff rfl (fun Kp hKp => ?_)
            ((with_reducible apply st_alloc); assumption; intro b8 w8 hs8; simp only [Value.cells] at hs8)
            refine hKp.out _ _ ?_
            clear hKp Kp
            (try simp only [Act.put, aP, aZ, aS])
            refine pl_eff rfl (fun Kp hKp => ?_)
            (first | ((with_reducible apply st_storeAll); assumption; rfl; (go_simp; rfl); (repeat (first | with_reducible exact Out.here _ | apply Out.there)); rfl; (focus (first | (simp [Value.oneCell']; done) | (simp [Value.cells, Value.oneCell']; done))); rfl; intro wr4_3 hsr4_3; simp only [Value.cells] at hsr4_3) | ((with_reducible apply st_store); assumption; rfl; (go_simp; rfl); (repeat (first | with_reducible exact Out.here _ | apply Out.there)); rfl; (first | (focus (simp [Value.oneCell']; done)) | (simp [Value.cells, Value.oneCell'])); (first | (focus (simp; done)) | (simp [Value.cells])); intro wr4_3 hsr4_3; simp only [upd, Value.cells] at hsr4_3))
            refine hKp.out _ _ ?_
            clear hKp Kp
            (try dsimp only [Act.put])
            refine pl_done ?_
            refine hK7.out _ _ ?_
            (try clear hK7 K7)
            refine wk_seq (fun K8 hK8 => ?_)
            refine wk_seq (fun K9 hK9 => ?_)
            refine wk_reg ?_
            iterate 2 (refine pl_take (v := ?_) rfl ?_ ?_; rotate_left; (· (first | ((with_reducible apply yl_load); assumption; rfl; (repeat (first | with_reducible assumption | ((with_reducible apply Cl.own); exact rfl) | ((with_reducible apply Cl.blkL); exact rfl) | with_reducible apply Cl.cons)); rfl) | (go_simp; first | done | with_reducible rfl | rfl | omega | assumption | (simp; omega)))); (try simp only [Act.put, aP, aZ, aS]))
            refine pl_take (v := .bool false) rfl ?_ ?_
            · (go_simp; first | done | with_reducible rfl | rfl | omega | assumption | (simp; omega))
            (try simp only [Act.put, aP, aZ, aS])
            refine pl_done ?_
            refine hK9.out _ _ ?_
            (try clear hK9 K9)
            refine wp_cond_false rfl ?_
            refine wp_skip ?_
            refine hK8.out _ _ ?_
            (try clear hK8 K8)
            refine wk_seq (fun K10 hK10 => ?_)
            refine wk_reg ?_
            iterate 2 (refine pl_take (v := ?_) rfl ?_ ?_; rotate_left; (· (first | ((with_reducible apply yl_load); assumption; rfl; (repeat (first | with_reducible assumption | ((with_reducible apply Cl.own); exact rfl) | ((with_reducible apply Cl.blkL); exact rfl) | with_reducible apply Cl.cons)); rfl) | (go_simp; first | done | with_reducible rfl | rfl | omega | assumption | (simp; omega)))); (try simp only [Act.put, aP, aZ, aS]))
            refine pl_eff rfl (fun Kp hKp => ?_)
            go_simp
            (refine (hG _ _ (by assumption) (by (repeat (first | with_reducible assumption | with_reducible exact Rd.own | with_reducible exact Rd.nil | with_reducible apply Rd.cons)))).mono ?_; rintro e28 w28 ⟨Y28, c28, q28, hq28, rfl, hs28⟩)
            (try go_wp2_with fail)
            refine hKp.out _ _ ?_
            clear hKp Kp
            (try simp only [Act.put, aP, aZ, aS])
            iterate 5 (refine pl_take (v := ?_) rfl ?_ ?_; rotate_left; (· (go_simp; first | done | with_reducible rfl | rfl | omega | assumption | (simp; omega))); (try simp only [Act.put, aP, aZ, aS]))
            refine pl_done ?_
            refine hK10.out _ _ ?_
            (try clear hK10 K10)
            refine wk_seq (fun K11 hK11 => ?_)
            refine wk_seq (fun K12 hK12 => ?_)
            refine wk_reg ?_
            iterate 2 (refine pl_take (v := .bool true) rfl ?_ ?_; (· (go_simp; first | done | with_reducible rfl | rfl | omega | assumption | (simp; omega))); (try simp only [Act.put, aP, aZ, aS]))
            iterate 2 (refine pl_take (v := ?_) (by kernel_rfl) ?_ ?_; rotate_left; (· (go_simp; first | done | with_reducible rfl | rfl | omega | assumption | (simp; omega))); (try simp only [Act.put, aP, aZ, aS]))
            refine pl_eff (by kernel_rfl) (fun Kp hKp => ?_)
            go_simp
            (refine (hB2 _ _ _ hq28 _ _ (by assumption) (by (repeat (first | with_reducible assumption | with_reducible exact Rd.own | with_reducible exact Rd.nil | with_reducible apply Rd.cons))) (by (repeat (first | with_reducible assumption | with_reducible exact Rd.own | with_reducible exact Rd.nil | with_reducible apply Rd.cons)))).mono ?_; rintro e35 w35 ⟨rfl, hs35⟩)
            (try go_wp2_with fail)
            refine hKp.out _ _ ?_
            clear hKp Kp
            (try simp only [Act.put, aP, aZ, aS])
            refine pl_take (v := .bool false) (by kernel_rfl) ?_ ?_
            · (go_simp; first | done | with_reducible rfl | rfl | omega | assumption | (simp; omega))
            (try simp only [Act.put, aP, aZ, aS])
            refine pl_take (v := .bool false) rfl ?_ ?_
            · (go_simp; first | done | with_reducible rfl | rfl | omega | assumption | (simp; omega))
            (try simp only [Act.put, aP, aZ, aS])
            refine pl_done ?_
            refine hK12.out _ _ ?_
            (try clear hK12 K12)
            refine wp_cond_false rfl ?_
            refine wp_skip ?_
            refine hK11.out _ _ ?_
            (try clear hK11 K11)
            refine wk_reg ?_
            iterate 2 (refine pl_take (v := ?_) rfl ?_ ?_; rotate_left; (· (go_simp; first | done | with_reducible rfl | rfl | omega | assumption | (simp; omega))); (try simp only [Act.put, aP, aZ, aS]))
            refine pl_take (v := .bool true) rfl ?_ ?_
            · (go_simp; first | done | with_reducible rfl | rfl | omega | assumption | (simp; omega))
            (try simp only [Act.put, aP, aZ, aS])
            refine pl_done ?_
            refine hK6.out _ _ ?_
            (try clear hK6 K6)
            refine wk_reg ?_
            iterate 2 (refine pl_take (v := ?_) rfl ?_ ?_; rotate_left; (· (go_simp; first | done | with_reducible rfl | rfl | omega | assumption | (simp; omega))); (try simp only [Act.put, aP, aZ, aS]))
            refine pl_done ?_
            (try dsimp only [Exit.inBlock, Exit.then])
            go_roundw
            case rel => exact ⟨k + 1, q28, c28, true, nx, Y28, own 3 1 Y28 c28 q28 (I8 nx), by go_num, by go_num, by go_num, by omega, by rw [hq28.out]; omega, hq28, by unfold Hid; rw [Hx2.out]; rfl, Rd.own, (by assumption : Sat w0 _ _).pick (by (repeat (first | exact Pick.nil _ | exact Pick.tail _ | exact Out.here _ | apply Out.there | apply Pick.cons | apply Pick.drop)))⟩
            case measure => simp [intOf]; omega
          | false =>
            obtain rfl : R = ei := by rw [Hx2.out]; rfl
            refine wk_seq (fun K4 hK4 => ?_)
            refine wk_reg ?_
            refine pl_take (v := .bool true) rfl ?_ ?_
            · (go_simp; first | done | with_reducible rfl | rfl | omega | assumption | (simp; omega))
            (try simp only [Act.put, aP, aZ, aS])
            refine pl_done ?_
            refine hK4.out _ _ ?_
            (try clear hK4 K4)
            refine wk_seq (fun K5 hK5 => ?_)
            refine wp_cond_true rfl ?_
            refine wp_skip ?_
            refine hK5.out _ _ ?_
            (try clear hK5 K5)
            refine wk_seq (fun K6 hK6 => ?_)
            refine wp_block ?_
            refine wk_seq (fun K7 hK7 => ?_)
            refine wk_reg ?_
            iterate 2 (refine pl_take (v := ?_) rfl ?_ ?_; rotate_left; (· (first | (first | ((with_reducible apply yl_loadAgg); assumption; rfl; (repeat (first | with_reducible exact Out.here _ | apply Out.there)); (simp); rfl; rfl) | ((with_reducible apply yl_loadAggR); assumption; rfl; (repeat (first | with_reducible assumption | with_reducible exact Rd.own | with_reducible exact Rd.nil | with_reducible apply Rd.cons)); rfl)) | (go_simp; first | done | with_reducible rfl | rfl | omega | assumption | (simp; omega)))); (try simp only [Act.put, aP, aZ, aS]))
            refine pl_eff rfl (fun Kp hKp => ?_)
            ((with_reducible apply st_alloc); assumption; intro b8 w8 hs8; simp only [Value.cells] at hs8)
            refine hKp.out _ _ ?_
            clear hKp Kp
            (try simp only [Act.put, aP, aZ, aS])
            refine pl_eff rfl (fun Kp hKp => ?_)
            (first | ((with_reducible apply st_storeAll); assumption; rfl; (go_simp; rfl); (repeat (first | with_reducible exact Out.here _ | apply Out.there)); rfl; (focus (first | (simp [Value.oneCell']; done) | (simp [Value.cells, Value.oneCell']; done))); rfl; intro wr4_3 hsr4_3; simp only [Value.cells] at hsr4_3) | ((with_reducible apply st_store); assumption; rfl; (go_simp; rfl); (repeat (first | with_reducible exact Out.here _ | apply Out.there)); rfl; (first | (focus (simp [Value.oneCell']; done)) | (simp [Value.cells, Value.oneCell'])); (first | (focus (simp; done)) | (simp [Value.cells])); intro wr4_3 hsr4_3; simp only [upd, Value.cells] at hsr4_3))
            refine hKp.out _ _ ?_
            clear hKp Kp
            (try dsimp only [Act.put])
            refine pl_done ?_
            refine hK7.out _ _ ?_
            (try clear hK7 K7)
            refine wk_seq (fun K8 hK8 => ?_)
            refine wk_seq (fun K9 hK9 => ?_)
            refine wk_reg ?_
            iterate 2 (refine pl_take (v := ?_) rfl ?_ ?_; rotate_left; (· (first | ((with_reducible apply yl_load); assumption; rfl; (repeat (first | with_reducible assumption | ((with_reducible apply Cl.own); exact rfl) | ((with_reducible apply Cl.blkL); exact rfl) | with_reducible apply Cl.cons)); rfl) | (go_simp; first | done | with_reducible rfl | rfl | omega | assumption | (simp; omega)))); (try simp only [Act.put, aP, aZ, aS]))
            refine pl_take (v := .bool false) rfl ?_ ?_
            · (go_simp; first | done | with_reducible rfl | rfl | omega | assumption | (simp; omega))
            (try simp only [Act.put, aP, aZ, aS])
            refine pl_done ?_
            refine hK9.out _ _ ?_
            (try clear hK9 K9)
            refine wp_cond_false rfl ?_
            refine wp_skip ?_
            refine hK8.out _ _ ?_
            (try clear hK8 K8)
            refine wk_seq (fun K10 hK10 => ?_)
            refine wk_reg ?_
            iterate 2 (refine pl_take (v := ?_) rfl ?_ ?_; rotate_left; (· (first | ((with_reducible apply yl_load); assumption; rfl; (repeat (first | with_reducible assumption | ((with_reducible apply Cl.own); exact rfl) | ((with_reducible apply Cl.blkL); exact rfl) | with_reducible apply Cl.cons)); rfl) | (go_simp; first | done | with_reducible rfl | rfl | omega | assumption | (simp; omega)))); (try simp only [Act.put, aP, aZ, aS]))
            refine pl_eff rfl (fun Kp hKp => ?_)
            go_simp
            (refine (hG _ _ (by assumption) (by (repeat (first | with_reducible assumption | with_reducible exact Rd.own | with_reducible exact Rd.nil | with_reducible apply Rd.cons)))).mono ?_; rintro e28 w28 ⟨Y28, c28, q28, hq28, rfl, hs28⟩)
            (try go_wp2_with fail)
            refine hKp.out _ _ ?_
            clear hKp Kp
            (try simp only [Act.put, aP, aZ, aS])
            iterate 5 (refine pl_take (v := ?_) rfl ?_ ?_; rotate_left; (· (go_simp; first | done | with_reducible rfl | rfl | omega | assumption | (simp; omega))); (try simp only [Act.put, aP, aZ, aS]))
            refine pl_done ?_
            refine hK10.out _ _ ?_
            (try clear hK10 K10)
            refine wk_seq (fun K11 hK11 => ?_)
            refine wk_seq (fun K12 hK12 => ?_)
            refine wk_reg ?_
            iterate 2 (refine pl_take (v := .bool true) rfl ?_ ?_; (· (go_simp; first | done | with_reducible rfl | rfl | omega | assumption | (simp; omega))); (try simp only [Act.put, aP, aZ, aS]))
            iterate 2 (refine pl_take (v := ?_) (by kernel_rfl) ?_ ?_; rotate_left; (· (go_simp; first | done | with_reducible rfl | rfl | omega | assumption | (simp; omega))); (try simp only [Act.put, aP, aZ, aS]))
            refine pl_eff (by kernel_rfl) (fun Kp hKp => ?_)
            go_simp
            (refine (hB2 _ _ _ hq28 _ _ (by assumption) (by (repeat (first | with_reducible assumption | with_reducible exact Rd.own | with_reducible exact Rd.nil | with_reducible apply Rd.cons))) (by (repeat (first | with_reducible assumption | with_reducible exact Rd.own | with_reducible exact Rd.nil | with_reducible apply Rd.cons)))).mono ?_; rintro e35 w35 ⟨rfl, hs35⟩)
            (try go_wp2_with fail)
            refine hKp.out _ _ ?_
            clear hKp Kp
            (try simp only [Act.put, aP, aZ, aS])
            refine pl_take (v := .bool true) (by kernel_rfl) ?_ ?_
            · (go_simp; first | done | with_reducible rfl | rfl | omega | assumption | (simp; omega))
            (try simp only [Act.put, aP, aZ, aS])
            refine pl_take (v := .bool true) rfl ?_ ?_
            · (go_simp; first | done | with_reducible rfl | rfl | omega | assumption | (simp; omega))
            (try simp only [Act.put, aP, aZ, aS])
            refine pl_done ?_
            refine hK12.out _ _ ?_
            (try clear hK12 K12)
            refine wp_cond_true rfl ?_
            refine wk_seq (fun K13 hK13 => ?_)
            refine wk_reg ?_
            iterate 3 (refine pl_take (v := ?_) rfl ?_ ?_; rotate_left; (· (first | ((with_reducible apply yl_load); assumption; rfl; (repeat (first | with_reducible assumption | ((with_reducible apply Cl.own); exact rfl) | ((with_reducible apply Cl.blkL); exact rfl) | with_reducible apply Cl.cons)); rfl) | (go_simp; first | done | with_reducible rfl | rfl | omega | assumption | (simp; omega)))); (try simp only [Act.put, aP, aZ, aS]))
            refine pl_done ?_
            refine hK13.out _ _ ?_
            (try clear hK13 K13)
            refine wp_ret ?_
            go_ret
            exact ⟨rfl, (by assumption : Sat w0 _ _).pick (by (repeat (first | exact Pick.nil _ | exact Pick.tail _ | exact Out.here _ | apply Out.there | apply Pick.cons | apply Pick.drop)))⟩
      · have hq' : (q != 3) = true := by simpa using hq
        rw [if_neg hq] at Hx
        have Hx' := Hid.mk' Hx
        clear Hx hq
        refine wk_seq (fun K4 hK4 => ?_)
        refine wk_reg ?_
        refine pl_take (v := .bool true) rfl ?_ ?_
        · (go_simp; first | done | with_reducible rfl | rfl | omega | assumption | (simp; omega))
        (try simp only [Act.put, aP, aZ, aS])
        refine pl_done ?_
        refine hK4.out _ _ ?_
        (try clear hK4 K4)
        refine wk_seq (fun K5 hK5 => ?_)
        refine wp_cond_true rfl ?_
        refine wp_skip ?_
        refine hK5.out _ _ ?_
        (try clear hK5 K5)
        refine wk_seq (fun K6 hK6 => ?_)
        refine wp_block ?_
        refine wk_seq (fun K7 hK7 => ?_)
        refine wk_reg ?_
        iterate 2 (refine pl_take (v := ?_) rfl ?_ ?_; rotate_left; (· (first | (first | ((with_reducible apply yl_loadAgg); assumption; rfl; (repeat (first | with_reducible exact Out.here _ | apply Out.there)); (simp); rfl; rfl) | ((with_reducible apply yl_loadAggR); assumption; rfl; (repeat (first | with_reducible assumption | with_reducible exact Rd.own | with_reducible exact Rd.nil | with_reducible apply Rd.cons)); rfl)) | (go_simp; first | done | with_reducible rfl | rfl | omega | assumption | (simp; omega)))); (try simp only [Act.put, aP, aZ, aS]))
        refine pl_eff rfl (fun Kp hKp => ?_)
        ((with_reducible apply st_alloc); assumption; intro b8 w8 hs8; simp only [Value.cells] at hs8)
        refine hKp.out _ _ ?_
        clear hKp Kp
        (try simp only [Act.put, aP, aZ, aS])
        refine pl_eff rfl (fun Kp hKp => ?_)
        (first | ((with_reducible apply st_storeAll); assumption; rfl; (go_simp; rfl); (repeat (first | with_reducible exact Out.here _ | apply Out.there)); rfl; (focus (first | (simp [Value.oneCell']; done) | (simp [Value.cells, Value.oneCell']; done))); rfl; intro wr4_3 hsr4_3; simp only [Value.cells] at hsr4_3) | ((with_reducible apply st_store); assumption; rfl; (go_simp; rfl); (repeat (first | with_reducible exact Out.here _ | apply Out.there)); rfl; (first | (focus (simp [Value.oneCell']; done)) | (simp [Value.cells, Value.oneCell'])); (first | (focus (simp; done)) | (simp [Value.cells])); intro wr4_3 hsr4_3; simp only [upd, Value.cells] at hsr4_3))
        refine hKp.out _ _ ?_
        clear hKp Kp
        (try dsimp only [Act.put])
        refine pl_done ?_
        refine hK7.out _ _ ?_
        (try clear hK7 K7)
        refine wk_seq (fun K8 hK8 => ?_)
        refine wk_seq (fun K9 hK9 => ?_)
        refine wk_reg ?_
        iterate 2 (refine pl_take (v := ?_) rfl ?_ ?_; rotate_left; (· (first | ((with_reducible apply yl_load); assumption; rfl; (repeat (first | with_reducible assumption | ((with_reducible apply Cl.own); exact rfl) | ((with_reducible apply Cl.blkL); exact rfl) | with_reducible apply Cl.cons)); rfl) | (go_simp; first | done | with_reducible rfl | rfl | omega | assumption | (simp; omega)))); (try simp only [Act.put, aP, aZ, aS]))
        refine pl_take (v := .bool true) rfl ?_ ?_
        · (go_simp; first | done | with_reducible rfl | rfl | omega | assumption | (simp; omega))
        (try simp only [Act.put, aP, aZ, aS])
        refine pl_done ?_
        refine hK9.out _ _ ?_
        (try clear hK9 K9)
        refine wp_cond_true rfl ?_
        refine wp_exit ?_
        refine hK6.out _ _ ?_
        (try clear hK6 K6)
        refine wk_reg ?_
        iterate 2 (refine pl_take (v := ?_) rfl ?_ ?_; rotate_left; (· (go_simp; first | done | with_reducible rfl | rfl | omega | assumption | (simp; omega))); (try simp only [Act.put, aP, aZ, aS]))
        refine pl_done ?_
        (try dsimp only [Exit.inBlock, Exit.then])
        go_roundw
        case rel => exact ⟨k + 1, n, c', sm, now, X, N, by go_num, by go_num, by go_num, by omega, hn, Hn, Hx', hX, (by assumption : Sat w0 _ _).pick (by (repeat (first | exact Pick.nil _ | exact Pick.tail _ | exact Out.here _ | apply Out.there | apply Pick.cons | apply Pick.drop)))⟩
        case measure => simp [intOf]; omega
    · obtain rfl : k = wl.length := by omega
      obtain rfl : R = 0 := by rw [Hg.out, List.drop_length]; rfl
      refine wk_seq (fun K4 hK4 => ?_)
      refine wk_reg ?_
      refine pl_take (v := .bool false) rfl ?_ ?_
      · (go_simp; first | done | with_reducible rfl | rfl | omega | assumption | (simp; omega))
      (try simp only [Act.put, aP, aZ, aS])
      refine pl_done ?_
      refine hK4.out _ _ ?_
      (try clear hK4 K4)
      refine wk_seq (fun K5 hK5 => ?_)
      refine wp_cond_false rfl ?_
      refine wp_exit ?_
      refine hK2.out _ _ ?_
      (try clear hK2 K2)
      refine wk_seq (fun K14 hK14 => ?_)
      refine wk_reg ?_
      refine pl_take (v := ?_) rfl ?_ ?_
      rotate_left
      · (go_simp; first | done | with_reducible rfl | rfl | omega | assumption | (simp; omega))
      (try simp only [Act.put, aP, aZ, aS])
      refine pl_done ?_
      refine hK14.out _ _ ?_
      (try clear hK14 K14)
      refine wp_ret ?_
      go_ret
      exact ⟨rfl, (by assumption : Sat w0 _ _).pick (by (repeat (first | exact Pick.nil _ | exact Pick.tail _ | exact Out.here _ | apply Out.there | apply Pick.cons | apply Pick.drop)))⟩
end Go.Proofs.Ytcpcdhlfdabbnaa
