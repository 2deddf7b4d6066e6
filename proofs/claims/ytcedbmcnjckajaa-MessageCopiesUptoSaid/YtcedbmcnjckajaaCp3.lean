/-
  MessageCopies: the walk.
-/
import Derived.Test.YtcedbmcnjckajaaCp2
namespace Go.Proofs.Ytcedbmcnjckajaa
open Go Go.RowKit Sl Go.Shelf
set_option maxHeartbeats 20000000
set_option maxRecDepth 8000

theorem ents_slVb {w0 : World} {L : List HP} {A : Option Addr} {c : Nat} {es : List Ent} (zs : List (Ent × Option Addr × Nat)) (hz : zs.map (·.1) = es) (h64 : ∀ x ∈ es, In64 x.t ∧ In64 x.i ∧ In64 x.k) :
    SlV EntV 4 (Rd w0 (own 41 4 A c es.length (entsCells zs) :: SatH (zs.map dataOwn) :: L)) [.slice A es.length c] es := by
  subst hz
  rw [List.length_map]
  exact ents_slV zs (fun y hm => h64 y.1 (List.mem_map_of_mem hm)) Rd.own fun y hm => (data_rd hm).cons

theorem Sat.bag_put2 {w0 w : World} {L : List HP} {M : List HP} {i : Nat} {X p : HP} (hi : M[i]? = some p) (hs : Sat w0 w (p :: X :: SatH (M.eraseIdx i) :: L)) : Sat w0 w (X :: SatH M :: L) := by
  have h1 : Sat w0 w (p :: SatH (M.eraseIdx i) :: X :: L) := hs.perm ((List.Perm.swap _ _ _).cons _)
  exact (h1.bag_put hi).swap

theorem Sat.any2 {w0 w : World} {L : List HP} {E : TypeId} {A : Option Addr} {c n : Nat} {xs : List Value} (hs : Sat w0 w L) {L' : List HP} (hp : Pick L (Sl.own E 1 A c n xs :: L')) : Sat w0 w (ownAny E A c n :: L') := (hs.pick hp).any


theorem messageCopies_walk {w0 w : World} {L : List HP} {A B C : Option Addr} {ca cb cc : Nat} (kd fr dn tm na nb nc nd : Int) (yes : Bool) (es : List Ent) (sv : List Int) (dt : List UInt8)
    (he : es.length ≤ 1048576) (hv : sv.length ≤ 1048576) (hd : dt.length ≤ 1048576) (hlen : ∀ x ∈ es, x.d.length ≤ 1048576) (hs : Sat w0 w L)
    (hE : SlV EntV 4 (Rd w0 L) [.slice A es.length ca] es) (hB : Rd w0 L B sv.length 1 (I8 sv)) (hC : Rd w0 L C dt.length 1 (B8 dt)) :
    Calls Try.prog 5 #[.agg #[.int .i64 kd, .int .i64 fr, .int .i64 dn, .int .i64 tm, .int .i64 na, .int .i64 nb, .int .i64 nc, .int .i64 nd, .bool yes, .slice A es.length ca, .slice B sv.length cb, .slice C dt.length cc]] w (RetB w0 L true) := by
  have h64 := ents_in hE
  go_enter Try.func5, Try.ntmps5
  refine wk_seq (fun K0 hK0 => ?_)
  refine wk_reg ?_
  refine pl_eff rfl (fun Kp hKp => ?_)
  ((with_reducible apply st_box); assumption; (go_simp; rfl); intro b1 w1 hs1; simp only [Value.cells] at hs1)
  refine hKp.out _ _ ?_
  clear hKp Kp
  (try simp only [Act.put, aP, aZ, aS])
  refine pl_take (v := .bool false) rfl ?_ ?_
  · (go_simp; first | done | with_reducible rfl | rfl | omega | assumption | (simp; omega))
  (try simp only [Act.put, aP, aZ, aS])
  refine pl_done ?_
  refine hK0.out _ _ ?_
  (try clear hK0 K0)
  refine wk_seq (fun K1 hK1 => ?_)
  refine wk_reg ?_
  refine pl_take (v := ?_) rfl ?_ ?_
  rotate_left
  · (first | ((with_reducible apply yl_loadAgg); assumption; rfl; (repeat (first | with_reducible exact Out.here _ | apply Out.there)); (simp); rfl; rfl) | ((with_reducible apply yl_loadAggR); assumption; rfl; (repeat (first | with_reducible assumption | with_reducible exact Rd.own | with_reducible exact Rd.nil | with_reducible apply Rd.cons)); rfl))
  (try simp only [Act.put, aP, aZ, aS])
  refine pl_eff rfl (fun Kp hKp => ?_)
  go_simp
  (refine (own4_spec kd fr dn tm na nb nc nd yes es sv dt he hv hd hlen (by assumption) ((SlV.mono EntV.mono).pick (by (repeat (first | exact Pick.nil _ | exact Pick.tail _ | exact Out.here _ | apply Out.there | apply Pick.cons | apply Pick.drop))) hE) (by (repeat (first | with_reducible assumption | with_reducible exact Rd.own | with_reducible exact Rd.nil | with_reducible apply Rd.cons))) (by (repeat (first | with_reducible assumption | with_reducible exact Rd.own | with_reducible exact Rd.nil | with_reducible apply Rd.cons)))).mono ?_; rintro e10 w10 ⟨YA, YB, YC, ya, yb, yc, ys, hys, rfl, hs10⟩; have hE1 := ents_slV' (w0 := w0) (L := L) (A := YA) (c := ya) ys hys h64; simp only [msgCells] at hs10 ⊢)
  (try go_wp2_with fail)
  refine hKp.out _ _ ?_
  clear hKp Kp
  (try simp only [Act.put, aP, aZ, aS])
  refine pl_eff rfl (fun Kp hKp => ?_)
  ((with_reducible apply st_alloc); assumption; intro b3 w3 hs3; simp only [Value.cells] at hs3)
  refine hKp.out _ _ ?_
  clear hKp Kp
  (try simp only [Act.put, aP, aZ, aS])
  refine pl_eff rfl (fun Kp hKp => ?_)
  (first | ((with_reducible apply st_storeAll); assumption; rfl; (go_simp; rfl); (repeat (first | with_reducible exact Out.here _ | apply Out.there)); rfl; (focus (first | (simp [Value.oneCell']; done) | (simp [Value.cells, Value.oneCell']; done))); rfl; intro wr1_3 hsr1_3; simp only [Value.cells] at hsr1_3) | ((with_reducible apply st_store); assumption; rfl; (go_simp; rfl); (repeat (first | with_reducible exact Out.here _ | apply Out.there)); rfl; (first | (focus (simp [Value.oneCell']; done)) | (simp [Value.cells, Value.oneCell'])); (first | (focus (simp; done)) | (simp [Value.cells])); intro wr1_3 hsr1_3; simp only [upd, Value.cells] at hsr1_3))
  refine hKp.out _ _ ?_
  clear hKp Kp
  (try dsimp only [Act.put])
  refine pl_done ?_
  refine hK1.out _ _ ?_
  (try clear hK1 K1)
  refine wk_seq (fun K2 hK2 => ?_)
  refine wk_reg ?_
  refine pl_take (v := ?_) rfl ?_ ?_
  rotate_left
  · (first | ((with_reducible apply yl_loadAgg); assumption; rfl; (repeat (first | with_reducible exact Out.here _ | apply Out.there)); (simp); rfl; rfl) | ((with_reducible apply yl_loadAggR); assumption; rfl; (repeat (first | with_reducible assumption | with_reducible exact Rd.own | with_reducible exact Rd.nil | with_reducible apply Rd.cons)); rfl))
  (try simp only [Act.put, aP, aZ, aS])
  refine pl_eff rfl (fun Kp hKp => ?_)
  go_simp
  (refine (copy_spec kd fr dn tm na nb nc nd yes es sv dt ys hys he hv hd hlen (by assumption) (by (repeat (first | with_reducible assumption | with_reducible exact Rd.own | with_reducible exact Rd.nil | with_reducible apply Rd.cons))) (fun y hm w hs => DV.rd (L := []) (List.mem_map.2 ⟨y, hm, rfl⟩) w (hs.pick (by (repeat (first | exact Pick.nil _ | exact Pick.tail _ | exact Out.here _ | apply Out.there | apply Pick.cons | apply Pick.drop))))) (by (repeat (first | with_reducible assumption | with_reducible exact Rd.own | with_reducible exact Rd.nil | with_reducible apply Rd.cons))) (by (repeat (first | with_reducible assumption | with_reducible exact Rd.own | with_reducible exact Rd.nil | with_reducible apply Rd.cons)))).mono ?_; rintro e12 w12 ⟨ZA, ZB, ZC, za, zb, zc, zs, hzs, rfl, hs12⟩; have hE2 := ents_slVb (w0 := w0) (L := L) (A := ZA) (c := za) zs hzs h64; simp only [msgCells] at hs12 ⊢)
  (try go_wp2_with fail)
  refine hKp.out _ _ ?_
  clear hKp Kp
  (try simp only [Act.put, aP, aZ, aS])
  refine pl_eff rfl (fun Kp hKp => ?_)
  ((with_reducible apply st_alloc); assumption; intro b4 w4 hs4; simp only [Value.cells] at hs4)
  refine hKp.out _ _ ?_
  clear hKp Kp
  (try simp only [Act.put, aP, aZ, aS])
  refine pl_eff rfl (fun Kp hKp => ?_)
  (first | ((with_reducible apply st_storeAll); assumption; rfl; (go_simp; rfl); (repeat (first | with_reducible exact Out.here _ | apply Out.there)); rfl; (focus (first | (simp [Value.oneCell']; done) | (simp [Value.cells, Value.oneCell']; done))); rfl; intro wr2_3 hsr2_3; simp only [Value.cells] at hsr2_3) | ((with_reducible apply st_store); assumption; rfl; (go_simp; rfl); (repeat (first | with_reducible exact Out.here _ | apply Out.there)); rfl; (first | (focus (simp [Value.oneCell']; done)) | (simp [Value.cells, Value.oneCell'])); (first | (focus (simp; done)) | (simp [Value.cells])); intro wr2_3 hsr2_3; simp only [upd, Value.cells] at hsr2_3))
  refine hKp.out _ _ ?_
  clear hKp Kp
  (try dsimp only [Act.put])
  refine pl_done ?_
  refine hK2.out _ _ ?_
  (try clear hK2 K2)
  refine wk_seq (fun K3 hK3 => ?_)
  refine wk_seq (fun K4 hK4 => ?_)
  refine wk_reg ?_
  iterate 2 (refine pl_take (v := ?_) rfl ?_ ?_; rotate_left; (· (first | ((with_reducible apply yl_loadAgg); assumption; rfl; (repeat (first | with_reducible exact Out.here _ | apply Out.there)); (simp); rfl; rfl) | ((with_reducible apply yl_loadAggR); assumption; rfl; (repeat (first | with_reducible assumption | with_reducible exact Rd.own | with_reducible exact Rd.nil | with_reducible apply Rd.cons)); rfl))); (try simp only [Act.put, aP, aZ, aS]))
  refine pl_eff rfl (fun Kp hKp => ?_)
  go_simp
  (refine (same4_spec kd fr dn tm na nb nc nd kd fr dn tm na nb nc nd yes yes es es sv sv dt dt true (by simp) he he hv hv (by assumption) ((SlV.mono EntV.mono).pick (by (repeat (first | exact Pick.nil _ | exact Pick.tail _ | exact Out.here _ | apply Out.there | apply Pick.cons | apply Pick.drop))) hE2) (by (repeat (first | with_reducible assumption | with_reducible exact Rd.own | with_reducible exact Rd.nil | with_reducible apply Rd.cons))) (by (repeat (first | with_reducible assumption | with_reducible exact Rd.own | with_reducible exact Rd.nil | with_reducible apply Rd.cons))) ((SlV.mono EntV.mono).pick (by (repeat (first | exact Pick.nil _ | exact Pick.tail _ | exact Out.here _ | apply Out.there | apply Pick.cons | apply Pick.drop))) hE) (by (repeat (first | with_reducible assumption | with_reducible exact Rd.own | with_reducible exact Rd.nil | with_reducible apply Rd.cons))) (by (repeat (first | with_reducible assumption | with_reducible exact Rd.own | with_reducible exact Rd.nil | with_reducible apply Rd.cons)))).mono ?_; rintro e15 w15 ⟨rfl, hs15⟩)
  (try go_wp2_with fail)
  refine hKp.out _ _ ?_
  clear hKp Kp
  (try simp only [Act.put, aP, aZ, aS])
  iterate 2 (refine pl_take (v := .bool false) rfl ?_ ?_; (· (go_simp; first | done | with_reducible rfl | rfl | omega | assumption | (simp; omega))); (try simp only [Act.put, aP, aZ, aS]))
  refine pl_eff (by kernel_rfl) (fun Kp hKp => ?_)
  go_simp
  ((refine (knows4_spec (by assumption)).mono ?_); rintro e18 w18 ⟨rfl, hs18⟩)
  (try go_wp2_with fail)
  refine hKp.out _ _ ?_
  clear hKp Kp
  (try simp only [Act.put, aP, aZ, aS])
  refine pl_take (v := .bool false) (by kernel_rfl) ?_ ?_
  · (go_simp; first | done | with_reducible rfl | rfl | omega | assumption | (simp; omega))
  (try simp only [Act.put, aP, aZ, aS])
  refine pl_take (v := .bool false) rfl ?_ ?_
  · (go_simp; first | done | with_reducible rfl | rfl | omega | assumption | (simp; omega))
  (try simp only [Act.put, aP, aZ, aS])
  refine pl_done ?_
  refine hK4.out _ _ ?_
  (try clear hK4 K4)
  refine wp_cond_false rfl ?_
  refine wp_skip ?_
  refine hK3.out _ _ ?_
  (try clear hK3 K3)
  refine wk_seq (fun K6 hK6 => ?_)
  refine wk_seq (fun K7 hK7 => ?_)
  refine wk_reg ?_
  refine pl_take (v := ?_) rfl ?_ ?_
  rotate_left
  · (go_simp; first | done | with_reducible rfl | rfl | omega | assumption | (simp; omega))
  (try simp only [Act.put, aP, aZ, aS])
  refine pl_done ?_
  refine hK7.out _ _ ?_
  (try clear hK7 K7)
  refine wp_block ?_
  -- at a loop
  have hzl : zs.length = es.length := by rw [← hzs, List.length_map]
  clear hE2
  go_loopw [5] (fun i wr => ∃ (k : Nat) (vs : List Int), i = .int .i64 k ∧ k ≤ dt.length ∧ vs.length = dt.length ∧ Sat w0 wr (own 5 1 ZC zc dt.length (vs.map (Value.int .u8)) :: own 41 4 ZA za es.length (entsCells zs) :: SatH (zs.map dataOwn) :: own 3 1 ZB zb sv.length (I8 sv) :: blk b4 (.cells #[.int .i64 kd, .int .i64 fr, .int .i64 dn, .int .i64 tm, .int .i64 na, .int .i64 nb, .int .i64 nc, .int .i64 nd, .bool yes, .slice ZA es.length za, .slice ZB sv.length zb, .slice ZC dt.length zc] 27 (0, 0)) :: own 41 4 YA ya es.length (entsCells ys) :: DV (entsData ys) :: own 3 1 YB yb sv.length (I8 sv) :: own 5 1 YC yc dt.length (B8 dt) :: blk b1 (.cells #[.int .i64 kd, .int .i64 fr, .int .i64 dn, .int .i64 tm, .int .i64 na, .int .i64 nb, .int .i64 nc, .int .i64 nd, .bool yes, .slice A es.length ca, .slice B sv.length cb, .slice C dt.length cc] 26 (0, 0)) :: blk b3 (.cells #[.int .i64 kd, .int .i64 fr, .int .i64 dn, .int .i64 tm, .int .i64 na, .int .i64 nb, .int .i64 nc, .int .i64 nd, .bool yes, .slice YA es.length ya, .slice YB sv.length yb, .slice YC dt.length yc] 27 (0, 0)) :: L)) (fun i _ => dt.length - (intOf i).toNat)
  case atStart => exact ⟨0, dt.map fun u => (u.toNat : Int), rfl, Nat.zero_le _, by simp, by rw [show (dt.map fun u => (u.toNat : Int)).map (Value.int .u8) = B8 dt from by simp [B8, b8]]; exact (by assumption : Sat w0 _ _).pick (by (repeat (first | exact Pick.nil _ | exact Pick.tail _ | exact Out.here _ | apply Out.there | apply Pick.cons | apply Pick.drop)))⟩
  case round =>
    obtain ⟨k, vs, rfl, hk, hvl, hsC⟩ := hrel
    by_cases hlt : k < dt.length
    · obtain ⟨v, hx⟩ : ∃ v, vs[k]? = some v := ⟨vs[k], List.getElem?_eq_getElem (by omega)⟩
      obtain ⟨g, rfl⟩ := hsC.own_some (by omega)
      have hcl := Cl.own_of hsC (k := k) (v := .int .u8 v) (by rw [List.getElem?_map, hx]; rfl)
      have i0 : (0 : Int) ≤ (k : Int) := by omega
      have i1 : (k : Int) < (dt.length : Int) := by omega
      have hwk : IntKind.i64.wrap ((k : Int) + 1) = (k : Int) + 1 := IntWalk.i64_in _ (by omega)
      clear hx
      refine wk_seq (fun K8 hK8 => ?_)
      refine wk_seq (fun K9 hK9 => ?_)
      refine wk_reg ?_
      iterate 4 (refine pl_take (v := ?_) rfl ?_ ?_; rotate_left; (· (first | ((with_reducible apply yl_load); assumption; rfl; (repeat (first | with_reducible assumption | ((with_reducible apply Cl.own); exact rfl) | ((with_reducible apply Cl.blkL); exact rfl) | with_reducible apply Cl.cons)); rfl) | (go_simp; first | done | with_reducible rfl | rfl | omega | assumption | (simp; omega)))); (try simp only [Act.put, aP, aZ, aS]))
      refine pl_take (v := .bool true) rfl ?_ ?_
      · (go_simp; first | done | with_reducible rfl | rfl | omega | assumption | (simp; omega))
      (try simp only [Act.put, aP, aZ, aS])
      refine pl_done ?_
      refine hK9.out _ _ ?_
      (try clear hK9 K9)
      refine wp_cond_true rfl ?_
      refine wp_skip ?_
      refine hK8.out _ _ ?_
      (try clear hK8 K8)
      refine wk_seq (fun K10 hK10 => ?_)
      refine wp_block ?_
      refine rg_start2 (L := own 41 4 ZA za es.length (entsCells zs) :: SatH (zs.map dataOwn) :: own 3 1 ZB zb sv.length (I8 sv) :: blk b4 (.cells #[.int .i64 kd, .int .i64 fr, .int .i64 dn, .int .i64 tm, .int .i64 na, .int .i64 nb, .int .i64 nc, .int .i64 nd, .bool yes, .slice ZA es.length za, .slice ZB sv.length zb, .slice (some ⟨g, 0, none⟩) dt.length zc] 27 (0, 0)) :: own 41 4 YA ya es.length (entsCells ys) :: DV (entsData ys) :: own 3 1 YB yb sv.length (I8 sv) :: own 5 1 YC yc dt.length (B8 dt) :: blk b1 (.cells #[.int .i64 kd, .int .i64 fr, .int .i64 dn, .int .i64 tm, .int .i64 na, .int .i64 nb, .int .i64 nc, .int .i64 nd, .bool yes, .slice A es.length ca, .slice B sv.length cb, .slice C dt.length cc] 26 (0, 0)) :: blk b3 (.cells #[.int .i64 kd, .int .i64 fr, .int .i64 dn, .int .i64 tm, .int .i64 na, .int .i64 nb, .int .i64 nc, .int .i64 nd, .bool yes, .slice YA es.length ya, .slice YB sv.length yb, .slice YC dt.length yc] 27 (0, 0)) :: L) rfl (by assumption) (by (repeat (first | exact Pick.nil _ | with_reducible exact Pick.tail _ | with_reducible exact Out.here _ | apply Out.there | apply Pick.cons | apply Pick.drop))) (fun wr8 hsr8 hsq8 => ?_)
      have hsz8 := hsr8
      refine rg_take (i := 0) (v := ?_) rfl (by kernel_rfl) (by kernel_rfl) (by kernel_rfl) (fun _ _ _ h => h) rfl (by assumption) ?_ ?_
      rotate_left
      · intro w hSw; (go_simp; first | done | with_reducible rfl | rfl | omega | assumption | (simp; omega))
      (try simp only [Act.put, aP, aZ, aS])
      refine rg_take (i := 1) (v := ?_) rfl (by kernel_rfl) (by kernel_rfl) (by kernel_rfl) (fun _ _ _ h => h) rfl (by assumption) ?_ ?_
      rotate_left
      · intro w hSw; ((with_reducible apply yl_load); assumption; rfl; (repeat (first | with_reducible assumption | ((with_reducible apply Cl.own); exact rfl) | ((with_reducible apply Cl.blkL); exact rfl) | with_reducible apply Cl.cons)); rfl)
      (try simp only [Act.put, aP, aZ, aS])
      refine rg_take (i := 2) (v := ?_) rfl (by kernel_rfl) (by kernel_rfl) (by kernel_rfl) (fun _ _ _ h => h) rfl (by assumption) ?_ ?_
      rotate_left
      · intro w hSw; (go_simp; first | done | with_reducible rfl | rfl | omega | assumption | (simp; omega))
      (try simp only [Act.put, aP, aZ, aS])
      refine rg_take (i := 3) (v := ?_) rfl (by kernel_rfl) (by kernel_rfl) (by kernel_rfl) (fun _ _ _ h => h) rfl (by assumption) ?_ ?_
      rotate_left
      · intro w hSw; (go_simp; first | done | with_reducible rfl | rfl | omega | assumption | (simp; omega))
      (try simp only [Act.put, aP, aZ, aS])
      refine rg_take (i := 4) (v := ?_) rfl (by kernel_rfl) (by kernel_rfl) (by kernel_rfl) (fun _ _ _ h => h) rfl (by assumption) ?_ ?_
      rotate_left
      · intro w hSw; ((with_reducible apply yl_load); assumption; rfl; (repeat (first | with_reducible assumption | ((with_reducible apply Cl.own); exact rfl) | ((with_reducible apply Cl.blkL); exact rfl) | with_reducible apply Cl.cons)); rfl)
      (try simp only [Act.put, aP, aZ, aS])
      refine rg_take (i := 5) (v := ?_) rfl (by kernel_rfl) (by kernel_rfl) (by kernel_rfl) (fun _ _ _ h => h) rfl (by assumption) ?_ ?_
      rotate_left
      · intro w hSw; (go_simp; first | done | with_reducible rfl | rfl | omega | assumption | (simp; omega))
      (try simp only [Act.put, aP, aZ, aS])
      refine rg_take (i := 6) (v := ?_) rfl (by kernel_rfl) (by kernel_rfl) (by kernel_rfl) (fun _ _ _ h => h) rfl (by assumption) ?_ ?_
      rotate_left
      · intro w hSw; (go_simp; first | done | with_reducible rfl | rfl | omega | assumption | (simp; omega))
      (try simp only [Act.put, aP, aZ, aS])
      refine rg_one (i := 7) (by kernel_rfl) rfl rfl (fun Kp hKp => ?_)
      ((with_reducible apply st_load); assumption; rfl; (repeat (first | with_reducible assumption | ((with_reducible apply Cl.own); exact rfl) | ((with_reducible apply Cl.blkL); exact rfl) | with_reducible apply Cl.cons)))
      refine rg_back (hK := hKp) ?_ (fun hsk35 => ?_)
      · (first | assumption | (apply Sat.drew; assumption) | (apply Sat.pick; assumption; (repeat (first | exact Pick.nil _ | with_reducible exact Pick.tail _ | with_reducible exact Out.here _ | apply Out.there | apply Pick.cons | apply Pick.drop))))
      clear hKp Kp
      have hsz35 := hsr8
      (try simp only [Act.put, aP, aZ, aS])
      refine rg_take (i := 8) (v := ?_) rfl (by kernel_rfl) (by kernel_rfl) (by kernel_rfl) (fun _ _ _ h => h) rfl (by assumption) ?_ ?_
      rotate_left
      · intro w hSw; (go_simp; first | done | with_reducible rfl | rfl | omega | assumption | (simp; omega))
      (try simp only [Act.put, aP, aZ, aS])
      refine rg_take (i := 9) (v := ?_) rfl (by kernel_rfl) (by kernel_rfl) (by kernel_rfl) (fun _ _ _ h => h) rfl (by assumption) ?_ ?_
      rotate_left
      · intro w hSw; (go_simp; first | done | with_reducible rfl | rfl | omega | assumption | (simp; omega))
      (try simp only [Act.put, aP, aZ, aS])
      refine rg_one (i := 10) (by kernel_rfl) rfl rfl (fun Kp hKp => ?_)
      (first | ((with_reducible apply st_store1); assumption; rfl; (go_simp; rfl); (repeat (first | with_reducible exact Out.here _ | apply Out.there)); rfl; rfl; simp; intro wr8_10 hsr8_10; (try simp only [aP] at hsr8_10); (try simp only [aS] at hsr8_10); (try simp only [aZ] at hsr8_10)) | ((with_reducible apply st_store_own); assumption; rfl; (go_simp; rfl); (repeat (first | with_reducible exact Out.here _ | apply Out.there)); rfl; rfl; omega; intro wr8_10 hsr8_10))
      refine rg_back (hK := hKp) ?_ (fun hskr8_10 => ?_)
      · (first | assumption | (apply Sat.drew; assumption) | (apply Sat.pick; assumption; (repeat (first | exact Pick.nil _ | with_reducible exact Pick.tail _ | with_reducible exact Out.here _ | apply Out.there | apply Pick.cons | apply Pick.drop))))
      clear hKp Kp
      have hszr8_10 := hsr8_10
      (try dsimp only [Act.put])
      refine rg_done (by kernel_rfl) ?_
      refine hK10.out _ _ ?_
      (try clear hK10 K10)
      refine wk_reg ?_
      iterate 3 (refine pl_take (v := ?_) rfl ?_ ?_; rotate_left; (· (go_simp; first | done | with_reducible rfl | rfl | omega | assumption | (simp; omega))); (try simp only [Act.put, aP, aZ, aS]))
      refine pl_done ?_
      dsimp only [Exit.then]
      go_roundw
      case rel => exact ⟨k + 1, vs.set k (IntKind.u8.wrap (v + 1)), by go_num, by omega, by simp [hvl], by rw [List.map_set]; exact (by assumption : Sat w0 _ _).pick (by (repeat (first | exact Pick.nil _ | exact Pick.tail _ | exact Out.here _ | apply Out.there | apply Pick.cons | apply Pick.drop)))⟩
      case measure => simp [intOf]; omega
    · obtain rfl : k = dt.length := by omega
      refine wk_seq (fun K8 hK8 => ?_)
      refine wk_seq (fun K9 hK9 => ?_)
      refine wk_reg ?_
      iterate 4 (refine pl_take (v := ?_) rfl ?_ ?_; rotate_left; (· (first | ((with_reducible apply yl_load); assumption; rfl; (repeat (first | with_reducible assumption | ((with_reducible apply Cl.own); exact rfl) | ((with_reducible apply Cl.blkL); exact rfl) | with_reducible apply Cl.cons)); rfl) | (go_simp; first | done | with_reducible rfl | rfl | omega | assumption | (simp; omega)))); (try simp only [Act.put, aP, aZ, aS]))
      refine pl_take (v := .bool false) rfl ?_ ?_
      · (go_simp; first | done | with_reducible rfl | rfl | omega | assumption | (simp; omega))
      (try simp only [Act.put, aP, aZ, aS])
      refine pl_done ?_
      refine hK9.out _ _ ?_
      (try clear hK9 K9)
      refine wp_cond_false rfl ?_
      refine wp_exit ?_
      refine hK6.out _ _ ?_
      (try clear hK6 K6)
      refine wk_seq (fun K11 hK11 => ?_)
      refine wk_seq (fun K12 hK12 => ?_)
      refine wk_reg ?_
      refine pl_take (v := ?_) rfl ?_ ?_
      rotate_left
      · (go_simp; first | done | with_reducible rfl | rfl | omega | assumption | (simp; omega))
      (try simp only [Act.put, aP, aZ, aS])
      refine pl_done ?_
      refine hK12.out _ _ ?_
      (try clear hK12 K12)
      refine wp_block ?_
      -- at a loop
      have hsS : Sat w0 _ (ownAny 3 ZB zb sv.length :: own 5 1 ZC zc dt.length (vs.map (Value.int .u8)) :: own 41 4 ZA za es.length (entsCells zs) :: SatH (zs.map dataOwn) :: blk b4 (.cells #[.int .i64 kd, .int .i64 fr, .int .i64 dn, .int .i64 tm, .int .i64 na, .int .i64 nb, .int .i64 nc, .int .i64 nd, .bool yes, .slice ZA es.length za, .slice ZB sv.length zb, .slice ZC dt.length zc] 27 (0, 0)) :: own 41 4 YA ya es.length (entsCells ys) :: DV (entsData ys) :: own 3 1 YB yb sv.length (I8 sv) :: own 5 1 YC yc dt.length (B8 dt) :: blk b1 (.cells #[.int .i64 kd, .int .i64 fr, .int .i64 dn, .int .i64 tm, .int .i64 na, .int .i64 nb, .int .i64 nc, .int .i64 nd, .bool yes, .slice A es.length ca, .slice B sv.length cb, .slice C dt.length cc] 26 (0, 0)) :: blk b3 (.cells #[.int .i64 kd, .int .i64 fr, .int .i64 dn, .int .i64 tm, .int .i64 na, .int .i64 nb, .int .i64 nc, .int .i64 nd, .bool yes, .slice YA es.length ya, .slice YB sv.length yb, .slice YC dt.length yc] 27 (0, 0)) :: L) := Sat.any2 (by assumption : Sat w0 _ _) (xs := I8 sv) (by (repeat (first | exact Pick.nil _ | exact Pick.tail _ | exact Out.here _ | apply Out.there | apply Pick.cons | apply Pick.drop)))
      clear hsC
      go_loopw [6] (fun i wr => ∃ (k : Nat), i = .int .i64 k ∧ k ≤ sv.length ∧ Sat w0 wr (ownAny 3 ZB zb sv.length :: own 5 1 ZC zc dt.length (vs.map (Value.int .u8)) :: own 41 4 ZA za es.length (entsCells zs) :: SatH (zs.map dataOwn) :: blk b4 (.cells #[.int .i64 kd, .int .i64 fr, .int .i64 dn, .int .i64 tm, .int .i64 na, .int .i64 nb, .int .i64 nc, .int .i64 nd, .bool yes, .slice ZA es.length za, .slice ZB sv.length zb, .slice ZC dt.length zc] 27 (0, 0)) :: own 41 4 YA ya es.length (entsCells ys) :: DV (entsData ys) :: own 3 1 YB yb sv.length (I8 sv) :: own 5 1 YC yc dt.length (B8 dt) :: blk b1 (.cells #[.int .i64 kd, .int .i64 fr, .int .i64 dn, .int .i64 tm, .int .i64 na, .int .i64 nb, .int .i64 nc, .int .i64 nd, .bool yes, .slice A es.length ca, .slice B sv.length cb, .slice C dt.length cc] 26 (0, 0)) :: blk b3 (.cells #[.int .i64 kd, .int .i64 fr, .int .i64 dn, .int .i64 tm, .int .i64 na, .int .i64 nb, .int .i64 nc, .int .i64 nd, .bool yes, .slice YA es.length ya, .slice YB sv.length yb, .slice YC dt.length yc] 27 (0, 0)) :: L)) (fun i _ => sv.length - (intOf i).toNat)
      case atStart => exact ⟨0, rfl, Nat.zero_le _, hsS⟩
      case round =>
        obtain ⟨k, rfl, hk2, hsC⟩ := hrel
        clear hsS
        by_cases hlt : k < sv.length
        · obtain ⟨g, rfl⟩ := hsC.any_some (by omega)
          have i0 : (0 : Int) ≤ (k : Int) := by omega
          have i1 : (k : Int) < (sv.length : Int) := by omega
          have hwk : IntKind.i64.wrap ((k : Int) + 1) = (k : Int) + 1 := IntWalk.i64_in _ (by omega)
          refine wk_seq (fun K13 hK13 => ?_)
          refine wk_seq (fun K14 hK14 => ?_)
          refine wk_reg ?_
          iterate 4 (refine pl_take (v := ?_) rfl ?_ ?_; rotate_left; (· (first | ((with_reducible apply yl_load); assumption; rfl; (repeat (first | with_reducible assumption | ((with_reducible apply Cl.own); exact rfl) | ((with_reducible apply Cl.blkL); exact rfl) | with_reducible apply Cl.cons)); rfl) | (go_simp; first | done | with_reducible rfl | rfl | omega | assumption | (simp; omega)))); (try simp only [Act.put, aP, aZ, aS]))
          refine pl_take (v := .bool true) rfl ?_ ?_
          · (go_simp; first | done | with_reducible rfl | rfl | omega | assumption | (simp; omega))
          (try simp only [Act.put, aP, aZ, aS])
          refine pl_done ?_
          refine hK14.out _ _ ?_
          (try clear hK14 K14)
          refine wp_cond_true rfl ?_
          refine wp_skip ?_
          refine hK13.out _ _ ?_
          (try clear hK13 K13)
          refine wk_seq (fun K15 hK15 => ?_)
          refine wp_block ?_
          refine wk_reg ?_
          iterate 4 (refine pl_take (v := ?_) rfl ?_ ?_; rotate_left; (· (first | ((with_reducible apply yl_load); assumption; rfl; (repeat (first | with_reducible assumption | ((with_reducible apply Cl.own); exact rfl) | ((with_reducible apply Cl.blkL); exact rfl) | with_reducible apply Cl.cons)); rfl) | (go_simp; first | done | with_reducible rfl | rfl | omega | assumption | (simp; omega)))); (try simp only [Act.put, aP, aZ, aS]))
          refine pl_eff rfl (fun Kp hKp => ?_)
          ((with_reducible apply st_store_any); assumption; rfl; (go_simp; rfl); (repeat (first | with_reducible exact Out.here _ | apply Out.there)); rfl; rfl; omega; intro wr12_4 hsr12_4)
          refine hKp.out _ _ ?_
          clear hKp Kp
          (try dsimp only [Act.put])
          refine pl_done ?_
          refine hK15.out _ _ ?_
          (try clear hK15 K15)
          refine wk_reg ?_
          iterate 3 (refine pl_take (v := ?_) rfl ?_ ?_; rotate_left; (· (go_simp; first | done | with_reducible rfl | rfl | omega | assumption | (simp; omega))); (try simp only [Act.put, aP, aZ, aS]))
          refine pl_done ?_
          dsimp only [Exit.then]
          go_roundw
          case rel => exact ⟨k + 1, by go_num, by omega, (by assumption : Sat w0 _ _).pick (by (repeat (first | exact Pick.nil _ | exact Pick.tail _ | exact Out.here _ | apply Out.there | apply Pick.cons | apply Pick.drop)))⟩
          case measure => simp [intOf]; omega
        · obtain rfl : k = sv.length := by omega
          refine wk_seq (fun K13 hK13 => ?_)
          refine wk_seq (fun K14 hK14 => ?_)
          refine wk_reg ?_
          iterate 4 (refine pl_take (v := ?_) rfl ?_ ?_; rotate_left; (· (first | ((with_reducible apply yl_load); assumption; rfl; (repeat (first | with_reducible assumption | ((with_reducible apply Cl.own); exact rfl) | ((with_reducible apply Cl.blkL); exact rfl) | with_reducible apply Cl.cons)); rfl) | (go_simp; first | done | with_reducible rfl | rfl | omega | assumption | (simp; omega)))); (try simp only [Act.put, aP, aZ, aS]))
          refine pl_take (v := .bool false) rfl ?_ ?_
          · (go_simp; first | done | with_reducible rfl | rfl | omega | assumption | (simp; omega))
          (try simp only [Act.put, aP, aZ, aS])
          refine pl_done ?_
          refine hK14.out _ _ ?_
          (try clear hK14 K14)
          refine wp_cond_false rfl ?_
          refine wp_exit ?_
          refine hK11.out _ _ ?_
          (try clear hK11 K11)
          refine wk_seq (fun K16 hK16 => ?_)
          refine wk_seq (fun K17 hK17 => ?_)
          refine wk_reg ?_
          refine pl_take (v := ?_) rfl ?_ ?_
          rotate_left
          · (go_simp; first | done | with_reducible rfl | rfl | omega | assumption | (simp; omega))
          (try simp only [Act.put, aP, aZ, aS])
          refine pl_done ?_
          refine hK17.out _ _ ?_
          (try clear hK17 K17)
          refine wp_block ?_
          -- at a loop
          have hsS : Sat w0 _ (SatH (zs.map dataAny) :: own 41 4 ZA za es.length (entsCells zs) :: blk b4 (.cells #[.int .i64 kd, .int .i64 fr, .int .i64 dn, .int .i64 tm, .int .i64 na, .int .i64 nb, .int .i64 nc, .int .i64 nd, .bool yes, .slice ZA es.length za, .slice ZB sv.length zb, .slice ZC dt.length zc] 27 (0, 0)) :: own 41 4 YA ya es.length (entsCells ys) :: DV (entsData ys) :: own 3 1 YB yb sv.length (I8 sv) :: own 5 1 YC yc dt.length (B8 dt) :: blk b1 (.cells #[.int .i64 kd, .int .i64 fr, .int .i64 dn, .int .i64 tm, .int .i64 na, .int .i64 nb, .int .i64 nc, .int .i64 nd, .bool yes, .slice A es.length ca, .slice B sv.length cb, .slice C dt.length cc] 26 (0, 0)) :: blk b3 (.cells #[.int .i64 kd, .int .i64 fr, .int .i64 dn, .int .i64 tm, .int .i64 na, .int .i64 nb, .int .i64 nc, .int .i64 nd, .bool yes, .slice YA es.length ya, .slice YB sv.length yb, .slice YC dt.length yc] 27 (0, 0)) :: L) := data_any ((by assumption : Sat w0 _ _).pick (by (repeat (first | exact Pick.nil _ | exact Pick.tail _ | exact Out.here _ | apply Out.there | apply Pick.cons | apply Pick.drop))))
          clear hsC
          go_loopw [7] (fun i wr => ∃ (k : Nat) (l : List (Ent × Option Addr × Nat)), i = .int .i64 k ∧ k ≤ es.length ∧ Hid (l.map (fun y => (y.1.d.length, y.2)) = zs.map (fun y => (y.1.d.length, y.2))) ∧ Sat w0 wr (own 41 4 ZA za es.length (entsCells l) :: SatH (zs.map dataAny) :: blk b4 (.cells #[.int .i64 kd, .int .i64 fr, .int .i64 dn, .int .i64 tm, .int .i64 na, .int .i64 nb, .int .i64 nc, .int .i64 nd, .bool yes, .slice ZA es.length za, .slice ZB sv.length zb, .slice ZC dt.length zc] 27 (0, 0)) :: own 41 4 YA ya es.length (entsCells ys) :: DV (entsData ys) :: own 3 1 YB yb sv.length (I8 sv) :: own 5 1 YC yc dt.length (B8 dt) :: blk b1 (.cells #[.int .i64 kd, .int .i64 fr, .int .i64 dn, .int .i64 tm, .int .i64 na, .int .i64 nb, .int .i64 nc, .int .i64 nd, .bool yes, .slice A es.length ca, .slice B sv.length cb, .slice C dt.length cc] 26 (0, 0)) :: blk b3 (.cells #[.int .i64 kd, .int .i64 fr, .int .i64 dn, .int .i64 tm, .int .i64 na, .int .i64 nb, .int .i64 nc, .int .i64 nd, .bool yes, .slice YA es.length ya, .slice YB sv.length yb, .slice YC dt.length yc] 27 (0, 0)) :: L)) (fun i _ => es.length - (intOf i).toNat)
          case atStart => exact ⟨0, zs, rfl, Nat.zero_le _, rfl, hsS.pick (by (repeat (first | exact Pick.nil _ | exact Pick.tail _ | exact Out.here _ | apply Out.there | apply Pick.cons | apply Pick.drop)))⟩
          case round =>
            obtain ⟨k, l, rfl, hk3, Hl, hsC⟩ := hrel
            clear hsS
            have hll : l.length = es.length := by have := congrArg List.length Hl.out; simp only [List.length_map] at this; omega
            by_cases hlt : k < es.length
            · obtain ⟨⟨⟨t, i, q, d⟩, Ax, cx⟩, hx⟩ : ∃ y, l[k]? = some y := ⟨l[k], List.getElem?_eq_getElem (by omega)⟩
              have hM : (zs.map dataAny)[k]? = some (ownAny 5 Ax cx d.length) := by
                have h1 := congrArg (fun z => z[k]?) Hl.out
                simp only [List.getElem?_map, hx] at h1
                rw [List.getElem?_map]
                cases hz : zs[k]? with
                | none => rw [hz] at h1; simp at h1
                | some z =>
                  rw [hz] at h1
                  simp only [Option.map_some, Option.some.injEq, Prod.mk.injEq] at h1
                  obtain ⟨h2, h3⟩ := h1
                  simp only [Option.map_some, dataAny, ← h2, ← h3]
              have hdl : d.length ≤ 1048576 := by
                have h1 := congrArg (fun z => z[k]?) Hl.out
                simp only [List.getElem?_map, hx] at h1
                cases hz : zs[k]? with
                | none => rw [hz] at h1; simp at h1
                | some z =>
                  rw [hz] at h1
                  simp only [Option.map_some, Option.some.injEq, Prod.mk.injEq] at h1
                  rw [h1.1]
                  exact hlen z.1 (by rw [← hzs]; exact List.mem_map_of_mem (List.mem_of_getElem? hz))
              obtain ⟨g, rfl⟩ := hsC.own_some (by omega)
              have hxd := entsCells_dataAt hx
              have HM := Hid.mk' hM
              have Hst : Hid ((entsCells l).set (k * 4) (.int .i64 (-1)) = entsCells (l.set k (⟨-1, i, q, d⟩, Ax, cx))) := Hid.mk' (entsCells_term hx)
              have Hl2 : Hid ((l.set k (⟨-1, i, q, d⟩, Ax, cx)).map (fun y => (y.1.d.length, y.2)) = zs.map (fun y => (y.1.d.length, y.2))) := by
                unfold Hid
                rw [← Hl.out, List.map_set]
                apply List.ext_getElem?
                intro j
                rw [List.getElem?_set]
                split
                · rename_i e; subst e; rw [List.getElem?_map, hx]; simp [hll, hlt]
                · rfl
              have hsT : Sat w0 _ (ownAny 5 Ax cx d.length :: SatH ((zs.map dataAny).eraseIdx k) :: own 41 4 (some ⟨g, 0, none⟩) za es.length (entsCells l) :: blk b4 (.cells #[.int .i64 kd, .int .i64 fr, .int .i64 dn, .int .i64 tm, .int .i64 na, .int .i64 nb, .int .i64 nc, .int .i64 nd, .bool yes, .slice (some ⟨g, 0, none⟩) es.length za, .slice ZB sv.length zb, .slice ZC dt.length zc] 27 (0, 0)) :: own 41 4 YA ya es.length (entsCells ys) :: DV (entsData ys) :: own 3 1 YB yb sv.length (I8 sv) :: own 5 1 YC yc dt.length (B8 dt) :: blk b1 (.cells #[.int .i64 kd, .int .i64 fr, .int .i64 dn, .int .i64 tm, .int .i64 na, .int .i64 nb, .int .i64 nc, .int .i64 nd, .bool yes, .slice A es.length ca, .slice B sv.length cb, .slice C dt.length cc] 26 (0, 0)) :: blk b3 (.cells #[.int .i64 kd, .int .i64 fr, .int .i64 dn, .int .i64 tm, .int .i64 na, .int .i64 nb, .int .i64 nc, .int .i64 nd, .bool yes, .slice YA es.length ya, .slice YB sv.length yb, .slice YC dt.length yc] 27 (0, 0)) :: L) := Sat.bag_take hM (hsC.pick (by (repeat (first | exact Pick.nil _ | exact Pick.tail _ | exact Out.here _ | apply Out.there | apply Pick.cons | apply Pick.drop))))
              clear hM hsC hx
              have i0 : (0 : Int) ≤ (k : Int) := by omega
              have i1 : (k : Int) < (es.length : Int) := by omega
              have hwk : IntKind.i64.wrap ((k : Int) + 1) = (k : Int) + 1 := IntWalk.i64_in _ (by omega)
              refine wk_seq (fun K18 hK18 => ?_)
              refine wk_seq (fun K19 hK19 => ?_)
              refine wk_reg ?_
              iterate 4 (refine pl_take (v := ?_) rfl ?_ ?_; rotate_left; (· (first | ((with_reducible apply yl_load); assumption; rfl; (repeat (first | with_reducible assumption | ((with_reducible apply Cl.own); exact rfl) | ((with_reducible apply Cl.blkL); exact rfl) | with_reducible apply Cl.cons)); rfl) | (go_simp; first | done | with_reducible rfl | rfl | omega | assumption | (simp; omega)))); (try simp only [Act.put, aP, aZ, aS]))
              refine pl_take (v := .bool true) rfl ?_ ?_
              · (go_simp; first | done | with_reducible rfl | rfl | omega | assumption | (simp; omega))
              (try simp only [Act.put, aP, aZ, aS])
              refine pl_done ?_
              refine hK19.out _ _ ?_
              (try clear hK19 K19)
              refine wp_cond_true rfl ?_
              refine wp_skip ?_
              refine hK18.out _ _ ?_
              (try clear hK18 K18)
              refine wk_seq (fun K20 hK20 => ?_)
              refine wp_block ?_
              refine wk_seq (fun K21 hK21 => ?_)
              refine wk_seq (fun K22 hK22 => ?_)
              refine wk_reg ?_
              refine pl_take (v := ?_) rfl ?_ ?_
              rotate_left
              · (go_simp; first | done | with_reducible rfl | rfl | omega | assumption | (simp; omega))
              (try simp only [Act.put, aP, aZ, aS])
              refine pl_done ?_
              refine hK22.out _ _ ?_
              (try clear hK22 K22)
              refine wp_block ?_
              -- at a loop
              go_loopw [8] (fun j wr => ∃ (m : Nat), j = .int .i64 m ∧ m ≤ d.length ∧ Sat w0 wr (own 41 4 (some ⟨g, 0, none⟩) za es.length (entsCells l) :: ownAny 5 Ax cx d.length :: SatH ((zs.map dataAny).eraseIdx k) :: blk b4 (.cells #[.int .i64 kd, .int .i64 fr, .int .i64 dn, .int .i64 tm, .int .i64 na, .int .i64 nb, .int .i64 nc, .int .i64 nd, .bool yes, .slice (some ⟨g, 0, none⟩) es.length za, .slice ZB sv.length zb, .slice ZC dt.length zc] 27 (0, 0)) :: own 41 4 YA ya es.length (entsCells ys) :: DV (entsData ys) :: own 3 1 YB yb sv.length (I8 sv) :: own 5 1 YC yc dt.length (B8 dt) :: blk b1 (.cells #[.int .i64 kd, .int .i64 fr, .int .i64 dn, .int .i64 tm, .int .i64 na, .int .i64 nb, .int .i64 nc, .int .i64 nd, .bool yes, .slice A es.length ca, .slice B sv.length cb, .slice C dt.length cc] 26 (0, 0)) :: blk b3 (.cells #[.int .i64 kd, .int .i64 fr, .int .i64 dn, .int .i64 tm, .int .i64 na, .int .i64 nb, .int .i64 nc, .int .i64 nd, .bool yes, .slice YA es.length ya, .slice YB sv.length yb, .slice YC dt.length yc] 27 (0, 0)) :: L)) (fun j _ => d.length - (intOf j).toNat)
              case atStart => exact ⟨0, rfl, Nat.zero_le _, hsT.pick (by (repeat (first | exact Pick.nil _ | exact Pick.tail _ | exact Out.here _ | apply Out.there | apply Pick.cons | apply Pick.drop)))⟩
              case round =>
                obtain ⟨m, rfl, hm, hsD⟩ := hrel
                clear hsT
                have hcl := Cl.own_of hsD hxd
                by_cases hlm : m < d.length
                · obtain ⟨ga, rfl⟩ := (hsD.pick (L := _) (T := [ownAny 5 Ax cx d.length]) (by (repeat (first | exact Pick.nil _ | exact Pick.tail _ | exact Out.here _ | apply Out.there | apply Pick.cons | apply Pick.drop)))).any_some (by omega)
                  have j0 : (0 : Int) ≤ (m : Int) := by omega
                  have j1 : (m : Int) < (d.length : Int) := by omega
                  have hwm : IntKind.i64.wrap ((m : Int) + 1) = (m : Int) + 1 := IntWalk.i64_in _ (by omega)
                  refine wk_seq (fun K23 hK23 => ?_)
                  refine wk_seq (fun K24 hK24 => ?_)
                  refine wk_reg ?_
                  iterate 8 (refine pl_take (v := ?_) rfl ?_ ?_; rotate_left; (· (first | ((with_reducible apply yl_load); assumption; rfl; (repeat (first | with_reducible assumption | ((with_reducible apply Cl.own); exact rfl) | ((with_reducible apply Cl.blkL); exact rfl) | with_reducible apply Cl.cons)); rfl) | (go_simp; first | done | with_reducible rfl | rfl | omega | assumption | (simp; omega)))); (try simp only [Act.put, aP, aZ, aS]))
                  refine pl_take (v := .bool true) rfl ?_ ?_
                  · (go_simp; first | done | with_reducible rfl | rfl | omega | assumption | (simp; omega))
                  (try simp only [Act.put, aP, aZ, aS])
                  refine pl_done ?_
                  refine hK24.out _ _ ?_
                  (try clear hK24 K24)
                  refine wp_cond_true rfl ?_
                  refine wp_skip ?_
                  refine hK23.out _ _ ?_
                  (try clear hK23 K23)
                  refine wk_seq (fun K25 hK25 => ?_)
                  refine wp_block ?_
                  refine wk_reg ?_
                  iterate 8 (refine pl_take (v := ?_) rfl ?_ ?_; rotate_left; (· (first | ((with_reducible apply yl_load); assumption; rfl; (repeat (first | with_reducible assumption | ((with_reducible apply Cl.own); exact rfl) | ((with_reducible apply Cl.blkL); exact rfl) | with_reducible apply Cl.cons)); rfl) | (go_simp; first | done | with_reducible rfl | rfl | omega | assumption | (simp; omega)))); (try simp only [Act.put, aP, aZ, aS]))
                  refine pl_eff rfl (fun Kp hKp => ?_)
                  ((with_reducible apply st_store_any); assumption; rfl; (go_simp; rfl); (repeat (first | with_reducible exact Out.here _ | apply Out.there)); rfl; rfl; omega; intro wr19_8 hsr19_8)
                  refine hKp.out _ _ ?_
                  clear hKp Kp
                  (try dsimp only [Act.put])
                  refine pl_done ?_
                  refine hK25.out _ _ ?_
                  (try clear hK25 K25)
                  refine wk_reg ?_
                  iterate 3 (refine pl_take (v := ?_) rfl ?_ ?_; rotate_left; (· (go_simp; first | done | with_reducible rfl | rfl | omega | assumption | (simp; omega))); (try simp only [Act.put, aP, aZ, aS]))
                  refine pl_done ?_
                  dsimp only [Exit.then]
                  go_roundw
                  case rel => exact ⟨m + 1, by go_num, by omega, (by assumption : Sat w0 _ _).pick (by (repeat (first | exact Pick.nil _ | exact Pick.tail _ | exact Out.here _ | apply Out.there | apply Pick.cons | apply Pick.drop)))⟩
                  case measure => simp [intOf]; omega
                · obtain rfl : m = d.length := by omega
                  refine wk_seq (fun K23 hK23 => ?_)
                  refine wk_seq (fun K24 hK24 => ?_)
                  refine wk_reg ?_
                  iterate 8 (refine pl_take (v := ?_) rfl ?_ ?_; rotate_left; (· (first | ((with_reducible apply yl_load); assumption; rfl; (repeat (first | with_reducible assumption | ((with_reducible apply Cl.own); exact rfl) | ((with_reducible apply Cl.blkL); exact rfl) | with_reducible apply Cl.cons)); rfl) | (go_simp; first | done | with_reducible rfl | rfl | omega | assumption | (simp; omega)))); (try simp only [Act.put, aP, aZ, aS]))
                  refine pl_take (v := .bool false) rfl ?_ ?_
                  · (go_simp; first | done | with_reducible rfl | rfl | omega | assumption | (simp; omega))
                  (try simp only [Act.put, aP, aZ, aS])
                  refine pl_done ?_
                  refine hK24.out _ _ ?_
                  (try clear hK24 K24)
                  refine wp_cond_false rfl ?_
                  refine wp_exit ?_
                  refine hK21.out _ _ ?_
                  (try clear hK21 K21)
                  refine wk_reg ?_
                  iterate 5 (refine pl_take (v := ?_) rfl ?_ ?_; rotate_left; (· (first | ((with_reducible apply yl_load); assumption; rfl; (repeat (first | with_reducible assumption | ((with_reducible apply Cl.own); exact rfl) | ((with_reducible apply Cl.blkL); exact rfl) | with_reducible apply Cl.cons)); rfl) | (go_simp; first | done | with_reducible rfl | rfl | omega | assumption | (simp; omega)))); (try simp only [Act.put, aP, aZ, aS]))
                  refine pl_eff rfl (fun Kp hKp => ?_)
                  ((with_reducible apply st_store_cell (sz := 4)); assumption; rfl; (go_simp; rfl); (repeat (first | with_reducible exact Out.here _ | apply Out.there)); rfl; rfl; omega; intro wr20_5 hsr20_5)
                  refine hKp.out _ _ ?_
                  clear hKp Kp
                  (try dsimp only [Act.put])
                  refine pl_done ?_
                  refine hK20.out _ _ ?_
                  (try clear hK20 K20)
                  refine wk_reg ?_
                  iterate 3 (refine pl_take (v := ?_) rfl ?_ ?_; rotate_left; (· (go_simp; first | done | with_reducible rfl | rfl | omega | assumption | (simp; omega))); (try simp only [Act.put, aP, aZ, aS]))
                  refine pl_done ?_
                  dsimp only [Exit.then]
                  go_roundw
                  case rel => (refine ⟨k + 1, l.set k (⟨-1, i, q, d⟩, Ax, cx), by go_num, by omega, Hl2, ?_⟩; rw [← Hst.out]; refine Sat.bag_put2 HM.out ?_; exact (by assumption : Sat w0 _ _).pick (by (repeat (first | exact Pick.nil _ | exact Pick.tail _ | exact Out.here _ | apply Out.there | apply Pick.cons | apply Pick.drop))))
                  case measure => simp [intOf]; omega
            · obtain rfl : k = es.length := by omega
              refine wk_seq (fun K18 hK18 => ?_)
              refine wk_seq (fun K19 hK19 => ?_)
              refine wk_reg ?_
              iterate 4 (refine pl_take (v := ?_) rfl ?_ ?_; rotate_left; (· (first | ((with_reducible apply yl_load); assumption; rfl; (repeat (first | with_reducible assumption | ((with_reducible apply Cl.own); exact rfl) | ((with_reducible apply Cl.blkL); exact rfl) | with_reducible apply Cl.cons)); rfl) | (go_simp; first | done | with_reducible rfl | rfl | omega | assumption | (simp; omega)))); (try simp only [Act.put, aP, aZ, aS]))
              refine pl_take (v := .bool false) rfl ?_ ?_
              · (go_simp; first | done | with_reducible rfl | rfl | omega | assumption | (simp; omega))
              (try simp only [Act.put, aP, aZ, aS])
              refine pl_done ?_
              refine hK19.out _ _ ?_
              (try clear hK19 K19)
              refine wp_cond_false rfl ?_
              refine wp_exit ?_
              refine hK16.out _ _ ?_
              (try clear hK16 K16)
              refine wk_seq (fun K26 hK26 => ?_)
              refine wk_reg ?_
              iterate 2 (refine pl_take (v := ?_) rfl ?_ ?_; rotate_left; (· (first | ((with_reducible apply yl_loadAgg); assumption; rfl; (repeat (first | with_reducible exact Out.here _ | apply Out.there)); (simp); rfl; rfl) | ((with_reducible apply yl_loadAggR); assumption; rfl; (repeat (first | with_reducible assumption | with_reducible exact Rd.own | with_reducible exact Rd.nil | with_reducible apply Rd.cons)); rfl))); (try simp only [Act.put, aP, aZ, aS]))
              refine pl_eff rfl (fun Kp hKp => ?_)
              go_simp
              (refine (same4_spec kd fr dn tm na nb nc nd kd fr dn tm na nb nc nd yes yes es es sv sv dt dt true (by simp) he he hv hv (by assumption) ((SlV.mono EntV.mono).pick (by (repeat (first | exact Pick.nil _ | exact Pick.tail _ | exact Out.here _ | apply Out.there | apply Pick.cons | apply Pick.drop))) hE1) (by (repeat (first | with_reducible assumption | with_reducible exact Rd.own | with_reducible exact Rd.nil | with_reducible apply Rd.cons))) (by (repeat (first | with_reducible assumption | with_reducible exact Rd.own | with_reducible exact Rd.nil | with_reducible apply Rd.cons))) ((SlV.mono EntV.mono).pick (by (repeat (first | exact Pick.nil _ | exact Pick.tail _ | exact Out.here _ | apply Out.there | apply Pick.cons | apply Pick.drop))) hE) (by (repeat (first | with_reducible assumption | with_reducible exact Rd.own | with_reducible exact Rd.nil | with_reducible apply Rd.cons))) (by (repeat (first | with_reducible assumption | with_reducible exact Rd.own | with_reducible exact Rd.nil | with_reducible apply Rd.cons)))).mono ?_; rintro e82 w82 ⟨rfl, hs82⟩)
              (try go_wp2_with fail)
              refine hKp.out _ _ ?_
              clear hKp Kp
              (try simp only [Act.put, aP, aZ, aS])
              refine pl_take (v := ?_) rfl ?_ ?_
              rotate_left
              · (go_simp; first | done | with_reducible rfl | rfl | omega | assumption | (simp; omega))
              (try simp only [Act.put, aP, aZ, aS])
              refine pl_done ?_
              refine hK26.out _ _ ?_
              (try clear hK26 K26)
              refine wp_ret ?_
              go_ret
              exact ⟨rfl, (by assumption : Sat w0 _ _).pick (by (repeat (first | exact Pick.nil _ | exact Pick.tail _ | exact Out.here _ | apply Out.there | apply Pick.cons | apply Pick.drop)))⟩
end Go.Proofs.Ytcedbmcnjckajaa
