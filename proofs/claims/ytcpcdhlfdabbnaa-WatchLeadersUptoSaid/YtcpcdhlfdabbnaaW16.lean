/-
  WatchBoth: the walk.
-/
import Derived.Test.YtcpcdhlfdabbnaaW9
import Derived.Test.YtcpcdhlfdabbnaaW11
import Derived.Test.YtcpcdhlfdabbnaaW12
import Derived.Test.YtcpcdhlfdabbnaaW13
import Derived.Test.YtcpcdhlfdabbnaaW15
namespace Go.Proofs.Ytcpcdhlfdabbnaa
open Go Go.RowKit Sl Go.Shelf Go.Deep
set_option maxHeartbeats 20000000
set_option maxRecDepth 8000

abbrev seenW (i t m : Int) (l : Bool) (b u : Int) (A : Option Addr) (n c : Nat) : Value := .agg #[.int .i64 i, .int .i64 t, .int .i64 m, .bool l, .int .i64 b, .int .i64 u, .slice A n c]

theorem tmod_bound (x : Int) : -1000 < x.tmod 1000 ∧ x.tmod 1000 < 1000 := by
  rcases Int.le_total 0 x with h | h
  · rw [Int.tmod_eq_emod_of_nonneg h]; omega
  · rw [show x = -(-x) from by omega, Int.neg_tmod, Int.tmod_eq_emod_of_nonneg (by omega)]; omega
theorem tmod_pos {x : Int} (h : 0 ≤ x) : 0 ≤ x.tmod 1000 ∧ x.tmod 1000 < 1000 := by rw [Int.tmod_eq_emod_of_nonneg h]; omega

theorem watchBoth_walk {w0 w : World} {L : List HP} {A B C D : Option Addr} {ca cb cc cd nl nm : Nat} (ia ta ma : Int) (la : Bool) (ab at_ : Int) (al : List Ent) (ib tb mb : Int) (lb : Bool) (bb bt : Int) (bl : List Ent) (ll lm : List (List UInt8)) (fr ot : Int)
    (hia : In64 ia) (hta : In64 ta) (hal : al.length ≤ 1048576) (hda : ∀ x ∈ al, x.d.length ≤ 1048576) (hbl : bl.length ≤ 1048576) (hdb : ∀ x ∈ bl, x.d.length ≤ 1048576) (hll : ll.length ≤ 1048576) (hlm : lm.length ≤ 1048576) (hs : Sat w0 w L)
    (hE : SlV EntV 4 (Rd w0 L) [.slice A al.length ca] al) (hE' : SlV EntV 4 (Rd w0 L) [.slice B bl.length cb] bl) (hC : ∀ {L' : List HP}, Pick L' L → RdBB w0 L' C nl ll) (hD : ∀ {L' : List HP}, Pick L' L → RdBB w0 L' D nm lm) :
    Calls Try.prog 6 #[.agg #[.int .i64 ia, .int .i64 ta, .int .i64 ma, .bool la, .int .i64 ab, .int .i64 at_, .slice A al.length ca], .agg #[.int .i64 ib, .int .i64 tb, .int .i64 mb, .bool lb, .int .i64 bb, .int .i64 bt, .slice B bl.length cb], .slice C nl cc, .slice D nm cd, .int .i64 fr, .int .i64 ot] w (RetB w0 L true) := by
  have h64a := ents_in hE
  have h64b := ents_in hE'
  have hm1 := fun (w : World) (L' : List HP) (A B : Option Addr) (ca cb : Nat) (hs : Sat w0 w L') (h1 : SlV EntV 4 (Rd w0 L') [.slice A al.length ca] al) (h2 : SlV EntV 4 (Rd w0 L') [.slice B bl.length cb] bl) => match_spec (ca := ca) (cb := cb) ab at_ al bb bt bl hal hda hbl hdb hs h1 h2
  have hm2 := fun (w : World) (L' : List HP) (A B : Option Addr) (ca cb : Nat) (hs : Sat w0 w L') (h1 : SlV EntV 4 (Rd w0 L') [.slice A bl.length ca] bl) (h2 : SlV EntV 4 (Rd w0 L') [.slice B al.length cb] al) => match_spec (ca := ca) (cb := cb) bb bt bl ab at_ al hbl hdb hal hda hs h1 h2
  have hm3 := fun (w : World) (L' : List HP) (A B : Option Addr) (ca cb : Nat) (hs : Sat w0 w L') (h1 : SlV EntV 4 (Rd w0 L') [.slice A al.length ca] al) (h2 : SlV EntV 4 (Rd w0 L') [.slice B al.length cb] al) => match_spec (ca := ca) (cb := cb) ab at_ al ab at_ al hal hda hal hda hs h1 h2
  have ha1 := fun (w : World) (L' : List HP) (A B : Option Addr) (ca cb : Nat) (hs : Sat w0 w L') (h1 : SlV EntV 4 (Rd w0 L') [.slice A al.length ca] al) (h2 : SlV EntV 4 (Rd w0 L') [.slice B bl.length cb] bl) => agree_spec (ca := ca) (cb := cb) ia ta ma la ab at_ al ib tb mb lb bb bt bl hal hda hbl hdb hs h1 h2
  have ha2 := fun (w : World) (L' : List HP) (A B : Option Addr) (ca cb : Nat) (hs : Sat w0 w L') (h1 : SlV EntV 4 (Rd w0 L') [.slice A bl.length ca] bl) (h2 : SlV EntV 4 (Rd w0 L') [.slice B al.length cb] al) => agree_spec (ca := ca) (cb := cb) ib tb mb lb bb bt bl ia ta ma la ab at_ al hbl hdb hal hda hs h1 h2
  have ha3 := fun (w : World) (L' : List HP) (A B : Option Addr) (ca cb : Nat) (hs : Sat w0 w L') (h1 : SlV EntV 4 (Rd w0 L') [.slice A al.length ca] al) (h2 : SlV EntV 4 (Rd w0 L') [.slice B al.length cb] al) => agree_spec (ca := ca) (cb := cb) ia ta ma la ab at_ al ia ta ma la ab at_ al hal hda hal hda hs h1 h2
  rw [matchV_symm ⟨bb, bt, bl⟩ ⟨ab, at_, al⟩] at hm2
  rw [agreeV_symm ⟨bb, bt, bl⟩ mb ⟨ab, at_, al⟩ ma] at ha2
  rw [matchV_self] at hm3
  rw [agreeV_self] at ha3
  obtain ⟨n1, hn1⟩ : ∃ n, matchV ⟨ab, at_, al⟩ ⟨bb, bt, bl⟩ = n := ⟨_, rfl⟩
  obtain ⟨n2, hn2⟩ : ∃ n, agreeV ⟨ab, at_, al⟩ ma ⟨bb, bt, bl⟩ mb = n := ⟨_, rfl⟩
  rw [hn1] at hm1 hm2
  rw [hn2] at ha1 ha2
  clear hn1 hn2
  have t1 := tmod_bound fr
  have t2 := tmod_bound ot
  obtain ⟨r1, hr1⟩ : ∃ r, Int.tmod fr 1000 = r := ⟨_, rfl⟩
  obtain ⟨r2, hr2⟩ : ∃ r, Int.tmod ot 1000 = r := ⟨_, rfl⟩
  rw [hr1] at t1
  rw [hr2] at t2
  have t3 := tmod_pos (x := r1 + 1000) (by omega)
  have t4 := tmod_pos (x := r2 + 1000) (by omega)
  obtain ⟨f, hf⟩ : ∃ r, Int.tmod (r1 + 1000) 1000 = r := ⟨_, rfl⟩
  obtain ⟨o, ho⟩ : ∃ r, Int.tmod (r2 + 1000) 1000 = r := ⟨_, rfl⟩
  rw [hf] at t3
  rw [ho] at t4
  have u1 : IntKind.i64.wrap (r1 + 1000) = r1 + 1000 := IntWalk.i64_in _ (by omega)
  have u2 : IntKind.i64.wrap (r2 + 1000) = r2 + 1000 := IntWalk.i64_in _ (by omega)
  have u3 : IntKind.i64.wrap r1 = r1 := IntWalk.i64_in _ (by omega)
  have u4 : IntKind.i64.wrap r2 = r2 := IntWalk.i64_in _ (by omega)
  have u5 : IntKind.i64.wrap f = f := IntWalk.i64_in _ (by omega)
  have u6 : IntKind.i64.wrap o = o := IntWalk.i64_in _ (by omega)
  have s1 := fun (w : World) (L' : List HP) (hs : Sat w0 w L') (hp : Pick L' L) => sameR_spec (ca := cc) (cb := cd) ll lm f o t3 t4 hll hlm hs (hC hp) (hD hp)
  have s2 := fun (w : World) (L' : List HP) (hs : Sat w0 w L') (hp : Pick L' L) => sameR_spec (ca := cd) (cb := cc) lm ll o f t4 t3 hlm hll hs (hD hp) (hC hp)
  have s3 := fun (w : World) (L' : List HP) (hs : Sat w0 w L') (hp : Pick L' L) => sameR_spec (ca := cc) (cb := cc) ll ll f f t3 t3 hll hll hs (hC hp) (hC hp)
  rw [sameR_symm (a := lm) (b := ll)] at s2
  rw [sameR_self (b := ll) (l := ll) (k := 0) rfl] at s3
  obtain ⟨n3, hn3⟩ : ∃ n, sameR lm f o 0 ll = n := ⟨_, rfl⟩
  rw [hn3] at s1 s2
  clear hn3
  go_enter Try.func6, Try.ntmps6
  refine wk_seq (fun K0 hK0 => ?_)
  refine wk_reg ?_
  refine pl_eff rfl (fun Kp hKp => ?_)
  ((with_reducible apply st_box); assumption; (go_simp; rfl); intro b6 w6 hs6; simp only [Value.cells] at hs6)
  refine hKp.out _ _ ?_
  clear hKp Kp
  (try simp only [Act.put, aP, aZ, aS])
  refine pl_eff rfl (fun Kp hKp => ?_)
  ((with_reducible apply st_box); assumption; (go_simp; rfl); intro b7 w7 hs7; simp only [Value.cells] at hs7)
  refine hKp.out _ _ ?_
  clear hKp Kp
  (try simp only [Act.put, aP, aZ, aS])
  refine pl_take (v := .bool false) rfl ?_ ?_
  · (go_simp; first | done | with_reducible rfl | rfl | omega | assumption | (simp; omega))
  (try simp only [Act.put, aP, aZ, aS])
  refine pl_done ?_
  refine hK0.out _ _ ?_
  (try clear hK0 K0)
  refine wk_seq (fun K1 hK1 => ?_)
  refine wk_reg ?_
  refine pl_take (v := ?_) rfl ?_ ?_
  rotate_left
  · (first | ((with_reducible apply yl_loadAgg); assumption; rfl; (repeat (first | with_reducible exact Out.here _ | apply Out.there)); (simp); rfl; rfl) | ((with_reducible apply yl_loadAggR); assumption; rfl; (repeat (first | with_reducible assumption | with_reducible exact Rd.own | with_reducible exact Rd.nil | with_reducible apply Rd.cons)); rfl))
  (try simp only [Act.put, aP, aZ, aS])
  refine pl_eff rfl (fun Kp hKp => ?_)
  go_simp
  (refine (seen_spec ia ta ma la ab at_ al hal hda (by assumption) ((SlV.mono EntV.mono).pick (by (repeat (first | exact Pick.nil _ | exact Pick.tail _ | exact Out.here _ | apply Out.there | apply Pick.cons | apply Pick.drop))) hE)).mono ?_; rintro e16 w16 ⟨XA, xa, xs, hxs, rfl, hs16⟩; have hE1 := ents_slV' (w0 := w0) (L := L) (A := XA) (c := xa) xs hxs h64a)
  (try go_wp2_with fail)
  refine hKp.out _ _ ?_
  clear hKp Kp
  (try simp only [Act.put, aP, aZ, aS])
  refine pl_eff rfl (fun Kp hKp => ?_)
  ((with_reducible apply st_alloc); assumption; intro b13 w13 hs13; simp only [Value.cells] at hs13)
  refine hKp.out _ _ ?_
  clear hKp Kp
  (try simp only [Act.put, aP, aZ, aS])
  refine pl_eff rfl (fun Kp hKp => ?_)
  (first | ((with_reducible apply st_storeAll); assumption; rfl; (go_simp; rfl); (repeat (first | with_reducible exact Out.here _ | apply Out.there)); rfl; (focus (first | (simp [Value.oneCell']; done) | (simp [Value.cells, Value.oneCell']; done))); rfl; intro wr1_3 hsr1_3; simp only [Value.cells] at hsr1_3) | ((with_reducible apply st_store); assumption; rfl; (go_simp; rfl); (repeat (first | with_reducible exact Out.here _ | apply Out.there)); rfl; (first | (focus (simp [Value.oneCell']; done)) | (simp [Value.cells, Value.oneCell'])); (first | (focus (simp; done)) | (simp [Value.cells])); intro wr1_3 hsr1_3; simp only [upd, Value.cells] at hsr1_3))
  refine hKp.out _ _ ?_
  clear hKp Kp
  (try dsimp only [Act.put])
  refine pl_done ?_
  refine hK1.out _ _ ?_
  (try clear hK1 K1)
  refine wk_seq (fun K2 hK2 => ?_)
  refine wk_reg ?_
  refine pl_take (v := ?_) rfl ?_ ?_
  rotate_left
  · (first | ((with_reducible apply yl_loadAgg); assumption; rfl; (repeat (first | with_reducible exact Out.here _ | apply Out.there)); (simp); rfl; rfl) | ((with_reducible apply yl_loadAggR); assumption; rfl; (repeat (first | with_reducible assumption | with_reducible exact Rd.own | with_reducible exact Rd.nil | with_reducible apply Rd.cons)); rfl))
  (try simp only [Act.put, aP, aZ, aS])
  refine pl_eff rfl (fun Kp hKp => ?_)
  go_simp
  (refine (seen_spec ib tb mb lb bb bt bl hbl hdb (by assumption) ((SlV.mono EntV.mono).pick (by (repeat (first | exact Pick.nil _ | exact Pick.tail _ | exact Out.here _ | apply Out.there | apply Pick.cons | apply Pick.drop))) hE')).mono ?_; rintro e18 w18 ⟨YA, ya, ys, hys, rfl, hs18⟩; have hE2 := ents_slV' (w0 := w0) (L := L) (A := YA) (c := ya) ys hys h64b)
  (try go_wp2_with fail)
  refine hKp.out _ _ ?_
  clear hKp Kp
  (try simp only [Act.put, aP, aZ, aS])
  refine pl_eff rfl (fun Kp hKp => ?_)
  ((with_reducible apply st_alloc); assumption; intro b14 w14 hs14; simp only [Value.cells] at hs14)
  refine hKp.out _ _ ?_
  clear hKp Kp
  (try simp only [Act.put, aP, aZ, aS])
  refine pl_eff rfl (fun Kp hKp => ?_)
  (first | ((with_reducible apply st_storeAll); assumption; rfl; (go_simp; rfl); (repeat (first | with_reducible exact Out.here _ | apply Out.there)); rfl; (focus (first | (simp [Value.oneCell']; done) | (simp [Value.cells, Value.oneCell']; done))); rfl; intro wr2_3 hsr2_3; simp only [Value.cells] at hsr2_3) | ((with_reducible apply st_store); assumption; rfl; (go_simp; rfl); (repeat (first | with_reducible exact Out.here _ | apply Out.there)); rfl; (first | (focus (simp [Value.oneCell']; done)) | (simp [Value.cells, Value.oneCell'])); (first | (focus (simp; done)) | (simp [Value.cells])); intro wr2_3 hsr2_3; simp only [upd, Value.cells] at hsr2_3))
  refine hKp.out _ _ ?_
  clear hKp Kp
  (try dsimp only [Act.put])
  refine pl_done ?_
  refine hK2.out _ _ ?_
  (try clear hK2 K2)
  refine wk_seq (fun K3 hK3 => ?_)
  refine wk_reg ?_
  iterate 5 (refine pl_take (v := ?_) rfl ?_ ?_; rotate_left; (· (go_simp; first | done | with_reducible rfl | rfl | omega | assumption | (simp; omega))); (try simp only [Act.put, aP, aZ, aS]))
  refine pl_done ?_
  refine hK3.out _ _ ?_
  (try clear hK3 K3)
  refine wk_seq (fun K4 hK4 => ?_)
  refine wk_reg ?_
  iterate 5 (refine pl_take (v := ?_) rfl ?_ ?_; rotate_left; (· (go_simp; first | done | with_reducible rfl | rfl | omega | assumption | (simp; omega))); (try simp only [Act.put, aP, aZ, aS]))
  refine pl_done ?_
  refine hK4.out _ _ ?_
  (try clear hK4 K4)
  refine wk_seq (fun K5 hK5 => ?_)
  refine wk_seq (fun K6 hK6 => ?_)
  refine rg_start rfl (by assumption) (fun wr5 hsr5 => ?_)
  refine rg_take (i := 0) (v := ?_) rfl (by kernel_rfl) (by kernel_rfl) (by kernel_rfl) (fun _ _ _ h => h) rfl (by assumption) ?_ ?_
  rotate_left
  · intro w hSw; (go_simp; first | done | with_reducible rfl | rfl | omega | assumption | (simp; omega))
  (try simp only [Act.put, aP, aZ, aS])
  refine rg_take (i := 1) (v := ?_) rfl (by kernel_rfl) (by kernel_rfl) (by kernel_rfl) (fun _ _ _ h => h) rfl (by assumption) ?_ ?_
  rotate_left
  · intro w hSw; (first | ((with_reducible apply yl_loadAgg); assumption; rfl; (repeat (first | with_reducible exact Out.here _ | apply Out.there)); (simp); rfl; rfl) | ((with_reducible apply yl_loadAggR); assumption; rfl; (repeat (first | with_reducible assumption | with_reducible exact Rd.own | with_reducible exact Rd.nil | with_reducible apply Rd.cons)); rfl))
  (try simp only [Act.put, aP, aZ, aS])
  refine rg_take (i := 2) (v := ?_) rfl (by kernel_rfl) (by kernel_rfl) (by kernel_rfl) (fun _ _ _ h => h) rfl (by assumption) ?_ ?_
  rotate_left
  · intro w hSw; (go_simp; first | done | with_reducible rfl | rfl | omega | assumption | (simp; omega))
  (try simp only [Act.put, aP, aZ, aS])
  refine rg_take (i := 3) (v := ?_) rfl (by kernel_rfl) (by kernel_rfl) (by kernel_rfl) (fun _ _ _ h => h) rfl (by assumption) ?_ ?_
  rotate_left
  · intro w hSw; (first | ((with_reducible apply yl_loadAgg); assumption; rfl; (repeat (first | with_reducible exact Out.here _ | apply Out.there)); (simp); rfl; rfl) | ((with_reducible apply yl_loadAggR); assumption; rfl; (repeat (first | with_reducible assumption | with_reducible exact Rd.own | with_reducible exact Rd.nil | with_reducible apply Rd.cons)); rfl))
  (try simp only [Act.put, aP, aZ, aS])
  refine rg_take (i := 5) (v := ?_) rfl (by kernel_rfl) (by kernel_rfl) (by kernel_rfl) (fun _ _ _ h => h) rfl (by assumption) ?_ ?_
  rotate_left
  · intro w hSw; (go_simp; first | done | with_reducible rfl | rfl | omega | assumption | (simp; omega))
  (try simp only [Act.put, aP, aZ, aS])
  refine rg_take (i := 6) (v := ?_) rfl (by kernel_rfl) (by kernel_rfl) (by kernel_rfl) (fun _ _ _ h => h) rfl (by assumption) ?_ ?_
  rotate_left
  · intro w hSw; (first | ((with_reducible apply yl_loadAgg); assumption; rfl; (repeat (first | with_reducible exact Out.here _ | apply Out.there)); (simp); rfl; rfl) | ((with_reducible apply yl_loadAggR); assumption; rfl; (repeat (first | with_reducible assumption | with_reducible exact Rd.own | with_reducible exact Rd.nil | with_reducible apply Rd.cons)); rfl))
  (try simp only [Act.put, aP, aZ, aS])
  refine rg_take (i := 7) (v := ?_) rfl (by kernel_rfl) (by kernel_rfl) (by kernel_rfl) (fun _ _ _ h => h) rfl (by assumption) ?_ ?_
  rotate_left
  · intro w hSw; (go_simp; first | done | with_reducible rfl | rfl | omega | assumption | (simp; omega))
  (try simp only [Act.put, aP, aZ, aS])
  refine rg_take (i := 8) (v := ?_) rfl (by kernel_rfl) (by kernel_rfl) (by kernel_rfl) (fun _ _ _ h => h) rfl (by assumption) ?_ ?_
  rotate_left
  · intro w hSw; (first | ((with_reducible apply yl_loadAgg); assumption; rfl; (repeat (first | with_reducible exact Out.here _ | apply Out.there)); (simp); rfl; rfl) | ((with_reducible apply yl_loadAggR); assumption; rfl; (repeat (first | with_reducible assumption | with_reducible exact Rd.own | with_reducible exact Rd.nil | with_reducible apply Rd.cons)); rfl))
  (try simp only [Act.put, aP, aZ, aS])
  refine rg_one (i := 4) (by kernel_rfl) rfl rfl (fun Kp hKp => ?_)
  go_simp
  (refine (hm1 _ _ _ _ _ _ (by assumption) ((SlV.mono EntV.mono).pick (by (repeat (first | exact Pick.nil _ | exact Pick.tail _ | exact Out.here _ | apply Out.there | apply Pick.cons | apply Pick.drop))) hE1) ((SlV.mono EntV.mono).pick (by (repeat (first | exact Pick.nil _ | exact Pick.tail _ | exact Out.here _ | apply Out.there | apply Pick.cons | apply Pick.drop))) hE2)).mono ?_; rintro e31 w31 ⟨rfl, hs31⟩)
  (try go_wp2_with fail)
  refine rg_back (hK := hKp) ?_ (fun hsk31 => ?_)
  · (first | assumption | (apply Sat.drew; assumption) | (apply Sat.pick; assumption; (repeat (first | exact Pick.nil _ | with_reducible exact Pick.tail _ | with_reducible exact Out.here _ | apply Out.there | apply Pick.cons | apply Pick.drop))))
  clear hKp Kp
  have hsz31 := hs31
  (try simp only [Act.put, aP, aZ, aS])
  refine rg_one (i := 9) (by kernel_rfl) rfl rfl (fun Kp hKp => ?_)
  go_simp
  (refine (hm2 _ _ _ _ _ _ (by assumption) ((SlV.mono EntV.mono).pick (by (repeat (first | exact Pick.nil _ | exact Pick.tail _ | exact Out.here _ | apply Out.there | apply Pick.cons | apply Pick.drop))) hE2) ((SlV.mono EntV.mono).pick (by (repeat (first | exact Pick.nil _ | exact Pick.tail _ | exact Out.here _ | apply Out.there | apply Pick.cons | apply Pick.drop))) hE1)).mono ?_; rintro e36 w36 ⟨rfl, hs36⟩)
  (try go_wp2_with fail)
  refine rg_back (hK := hKp) ?_ (fun hsk36 => ?_)
  · (first | assumption | (apply Sat.drew; assumption) | (apply Sat.pick; assumption; (repeat (first | exact Pick.nil _ | with_reducible exact Pick.tail _ | with_reducible exact Out.here _ | apply Out.there | apply Pick.cons | apply Pick.drop))))
  clear hKp Kp
  have hsz36 := hs36
  (try simp only [Act.put, aP, aZ, aS])
  refine rg_take (i := 10) (v := .bool false) rfl (by kernel_rfl) (by kernel_rfl) (by kernel_rfl) (fun _ _ _ h => h) rfl (by assumption) ?_ ?_
  · intro w hSw; (go_simp; first | done | with_reducible rfl | rfl | omega | assumption | (simp; omega))
  (try simp only [Act.put, aP, aZ, aS])
  refine rg_take (i := 11) (v := .bool false) rfl (by kernel_rfl) (by kernel_rfl) (by kernel_rfl) (fun _ _ _ h => h) rfl (by assumption) ?_ ?_
  · intro w hSw; (go_simp; first | done | with_reducible rfl | rfl | omega | assumption | (simp; omega))
  (try simp only [Act.put, aP, aZ, aS])
  refine rg_take (i := 12) (v := ?_) rfl (by kernel_rfl) (by kernel_rfl) (by kernel_rfl) (fun _ _ _ h => h) (by kernel_rfl) (by assumption) ?_ ?_
  rotate_left
  · intro w hSw; (first | ((with_reducible apply yl_loadAgg); assumption; rfl; (repeat (first | with_reducible exact Out.here _ | apply Out.there)); (simp); rfl; rfl) | ((with_reducible apply yl_loadAggR); assumption; rfl; (repeat (first | with_reducible assumption | with_reducible exact Rd.own | with_reducible exact Rd.nil | with_reducible apply Rd.cons)); rfl))
  (try simp only [Act.put, aP, aZ, aS])
  refine rg_take (i := 13) (v := ?_) rfl (by kernel_rfl) (by kernel_rfl) (by kernel_rfl) (fun _ _ _ h => h) (by kernel_rfl) (by assumption) ?_ ?_
  rotate_left
  · intro w hSw; (first | ((with_reducible apply yl_loadAgg); assumption; rfl; (repeat (first | with_reducible exact Out.here _ | apply Out.there)); (simp); rfl; rfl) | ((with_reducible apply yl_loadAggR); assumption; rfl; (repeat (first | with_reducible assumption | with_reducible exact Rd.own | with_reducible exact Rd.nil | with_reducible apply Rd.cons)); rfl))
  (try simp only [Act.put, aP, aZ, aS])
  refine rg_take (i := 15) (v := ?_) rfl (by kernel_rfl) (by kernel_rfl) (by kernel_rfl) (fun _ _ _ h => h) (by kernel_rfl) (by assumption) ?_ ?_
  rotate_left
  · intro w hSw; (first | ((with_reducible apply yl_loadAgg); assumption; rfl; (repeat (first | with_reducible exact Out.here _ | apply Out.there)); (simp); rfl; rfl) | ((with_reducible apply yl_loadAggR); assumption; rfl; (repeat (first | with_reducible assumption | with_reducible exact Rd.own | with_reducible exact Rd.nil | with_reducible apply Rd.cons)); rfl))
  (try simp only [Act.put, aP, aZ, aS])
  refine rg_take (i := 16) (v := ?_) rfl (by kernel_rfl) (by kernel_rfl) (by kernel_rfl) (fun _ _ _ h => h) (by kernel_rfl) (by assumption) ?_ ?_
  rotate_left
  · intro w hSw; (first | ((with_reducible apply yl_loadAgg); assumption; rfl; (repeat (first | with_reducible exact Out.here _ | apply Out.there)); (simp); rfl; rfl) | ((with_reducible apply yl_loadAggR); assumption; rfl; (repeat (first | with_reducible assumption | with_reducible exact Rd.own | with_reducible exact Rd.nil | with_reducible apply Rd.cons)); rfl))
  (try simp only [Act.put, aP, aZ, aS])
  refine rg_one (i := 14) (by kernel_rfl) rfl (by kernel_rfl) (fun Kp hKp => ?_)
  go_simp
  (refine (ha1 _ _ _ _ _ _ (by assumption) ((SlV.mono EntV.mono).pick (by (repeat (first | exact Pick.nil _ | exact Pick.tail _ | exact Out.here _ | apply Out.there | apply Pick.cons | apply Pick.drop))) hE1) ((SlV.mono EntV.mono).pick (by (repeat (first | exact Pick.nil _ | exact Pick.tail _ | exact Out.here _ | apply Out.there | apply Pick.cons | apply Pick.drop))) hE2)).mono ?_; rintro e41 w41 ⟨rfl, hs41⟩)
  (try go_wp2_with fail)
  refine rg_back (hK := hKp) ?_ (fun hsk41 => ?_)
  · (first | assumption | (apply Sat.drew; assumption) | (apply Sat.pick; assumption; (repeat (first | exact Pick.nil _ | with_reducible exact Pick.tail _ | with_reducible exact Out.here _ | apply Out.there | apply Pick.cons | apply Pick.drop))))
  clear hKp Kp
  have hsz41 := hs41
  (try simp only [Act.put, aP, aZ, aS])
  refine rg_one (i := 17) (by kernel_rfl) rfl (by kernel_rfl) (fun Kp hKp => ?_)
  go_simp
  (refine (ha2 _ _ _ _ _ _ (by assumption) ((SlV.mono EntV.mono).pick (by (repeat (first | exact Pick.nil _ | exact Pick.tail _ | exact Out.here _ | apply Out.there | apply Pick.cons | apply Pick.drop))) hE2) ((SlV.mono EntV.mono).pick (by (repeat (first | exact Pick.nil _ | exact Pick.tail _ | exact Out.here _ | apply Out.there | apply Pick.cons | apply Pick.drop))) hE1)).mono ?_; rintro e44 w44 ⟨rfl, hs44⟩)
  (try go_wp2_with fail)
  refine rg_back (hK := hKp) ?_ (fun hsk44 => ?_)
  · (first | assumption | (apply Sat.drew; assumption) | (apply Sat.pick; assumption; (repeat (first | exact Pick.nil _ | with_reducible exact Pick.tail _ | with_reducible exact Out.here _ | apply Out.there | apply Pick.cons | apply Pick.drop))))
  clear hKp Kp
  have hsz44 := hs44
  (try simp only [Act.put, aP, aZ, aS])
  refine rg_take (i := 18) (v := .bool false) rfl (by kernel_rfl) (by kernel_rfl) (by kernel_rfl) (fun _ _ _ h => h) (by kernel_rfl) (by assumption) ?_ ?_
  · intro w hSw; (go_simp; first | done | with_reducible rfl | rfl | omega | assumption | (simp; omega))
  (try simp only [Act.put, aP, aZ, aS])
  refine rg_take (i := 19) (v := .bool false) rfl (by kernel_rfl) (by kernel_rfl) (by kernel_rfl) (fun _ _ _ h => h) rfl (by assumption) ?_ ?_
  · intro w hSw; (go_simp; first | done | with_reducible rfl | rfl | omega | assumption | (simp; omega))
  (try simp only [Act.put, aP, aZ, aS])
  refine rg_take (i := 20) (v := .bool false) rfl (by kernel_rfl) (by kernel_rfl) (by kernel_rfl) (fun _ _ _ h => h) rfl (by assumption) ?_ ?_
  · intro w hSw; (go_simp; first | done | with_reducible rfl | rfl | omega | assumption | (simp; omega))
  (try simp only [Act.put, aP, aZ, aS])
  refine rg_take (i := 21) (v := ?_) rfl (by kernel_rfl) (by kernel_rfl) (by kernel_rfl) (fun _ _ _ h => h) (by kernel_rfl) (by assumption) ?_ ?_
  rotate_left
  · intro w hSw; (go_simp; first | done | with_reducible rfl | rfl | omega | assumption | (simp; omega))
  (try simp only [Act.put, aP, aZ, aS])
  refine rg_take (i := 22) (v := ?_) rfl (by kernel_rfl) (by kernel_rfl) (by kernel_rfl) (fun _ _ _ h => h) (by kernel_rfl) (by assumption) ?_ ?_
  rotate_left
  · intro w hSw; (go_simp; first | done | with_reducible rfl | rfl | omega | assumption | (simp; omega))
  (try simp only [Act.put, aP, aZ, aS])
  refine rg_take (i := 23) (v := ?_) rfl (by kernel_rfl) (by kernel_rfl) (by kernel_rfl) (fun _ _ _ h => h) (by kernel_rfl) (by assumption) ?_ ?_
  rotate_left
  · intro w hSw; (go_simp; first | done | with_reducible rfl | rfl | omega | assumption | (simp; omega))
  (try simp only [Act.put, aP, aZ, aS])
  refine rg_take (i := 24) (v := ?_) rfl (by kernel_rfl) (by kernel_rfl) (by kernel_rfl) (fun _ _ _ h => h) (by kernel_rfl) (by assumption) ?_ ?_
  rotate_left
  · intro w hSw; (go_simp; first | done | with_reducible rfl | rfl | omega | assumption | (simp; omega))
  (try simp only [Act.put, aP, aZ, aS])
  refine rg_take (i := 26) (v := ?_) rfl (by kernel_rfl) (by kernel_rfl) (by kernel_rfl) (fun _ _ _ h => h) (by kernel_rfl) (by assumption) ?_ ?_
  rotate_left
  · intro w hSw; (go_simp; first | done | with_reducible rfl | rfl | omega | assumption | (simp; omega))
  (try simp only [Act.put, aP, aZ, aS])
  refine rg_take (i := 27) (v := ?_) rfl (by kernel_rfl) (by kernel_rfl) (by kernel_rfl) (fun _ _ _ h => h) (by kernel_rfl) (by assumption) ?_ ?_
  rotate_left
  · intro w hSw; (go_simp; first | done | with_reducible rfl | rfl | omega | assumption | (simp; omega))
  (try simp only [Act.put, aP, aZ, aS])
  refine rg_take (i := 28) (v := ?_) rfl (by kernel_rfl) (by kernel_rfl) (by kernel_rfl) (fun _ _ _ h => h) (by kernel_rfl) (by assumption) ?_ ?_
  rotate_left
  · intro w hSw; (go_simp; first | done | with_reducible rfl | rfl | omega | assumption | (simp; omega))
  (try simp only [Act.put, aP, aZ, aS])
  refine rg_take (i := 29) (v := ?_) rfl (by kernel_rfl) (by kernel_rfl) (by kernel_rfl) (fun _ _ _ h => h) (by kernel_rfl) (by assumption) ?_ ?_
  rotate_left
  · intro w hSw; (go_simp; first | done | with_reducible rfl | rfl | omega | assumption | (simp; omega))
  (try simp only [Act.put, aP, aZ, aS])
  refine rg_one (i := 25) (by kernel_rfl) rfl (by kernel_rfl) (fun Kp hKp => ?_)
  go_simp
  (refine (s1 _ _ (by assumption) (by (repeat (first | exact Pick.nil _ | exact Pick.tail _ | exact Out.here _ | apply Out.there | apply Pick.cons | apply Pick.drop)))).mono ?_; rintro e52 w52 ⟨rfl, hs52⟩)
  (try go_wp2_with fail)
  refine rg_back (hK := hKp) ?_ (fun hsk52 => ?_)
  · (first | assumption | (apply Sat.drew; assumption) | (apply Sat.pick; assumption; (repeat (first | exact Pick.nil _ | with_reducible exact Pick.tail _ | with_reducible exact Out.here _ | apply Out.there | apply Pick.cons | apply Pick.drop))))
  clear hKp Kp
  have hsz52 := hs52
  (try simp only [Act.put, aP, aZ, aS])
  refine rg_one (i := 30) (by kernel_rfl) rfl (by kernel_rfl) (fun Kp hKp => ?_)
  go_simp
  (refine (s2 _ _ (by assumption) (by (repeat (first | exact Pick.nil _ | exact Pick.tail _ | exact Out.here _ | apply Out.there | apply Pick.cons | apply Pick.drop)))).mono ?_; rintro e57 w57 ⟨rfl, hs57⟩)
  (try go_wp2_with fail)
  refine rg_back (hK := hKp) ?_ (fun hsk57 => ?_)
  · (first | assumption | (apply Sat.drew; assumption) | (apply Sat.pick; assumption; (repeat (first | exact Pick.nil _ | with_reducible exact Pick.tail _ | with_reducible exact Out.here _ | apply Out.there | apply Pick.cons | apply Pick.drop))))
  clear hKp Kp
  have hsz57 := hs57
  (try simp only [Act.put, aP, aZ, aS])
  refine rg_take (i := 31) (v := .bool false) rfl (by kernel_rfl) (by kernel_rfl) (by kernel_rfl) (fun _ _ _ h => h) (by kernel_rfl) (by assumption) ?_ ?_
  · intro w hSw; (go_simp; first | done | with_reducible rfl | rfl | omega | assumption | (simp; omega))
  (try simp only [Act.put, aP, aZ, aS])
  refine rg_take (i := 32) (v := .bool false) rfl (by kernel_rfl) (by kernel_rfl) (by kernel_rfl) (fun _ _ _ h => h) rfl (by assumption) ?_ ?_
  · intro w hSw; (go_simp; first | done | with_reducible rfl | rfl | omega | assumption | (simp; omega))
  (try simp only [Act.put, aP, aZ, aS])
  refine rg_done (by kernel_rfl) ?_
  refine hK6.out _ _ ?_
  (try clear hK6 K6)
  refine wp_cond_false rfl ?_
  refine wp_skip ?_
  refine hK5.out _ _ ?_
  (try clear hK5 K5)
  refine wk_seq (fun K8 hK8 => ?_)
  refine wk_reg ?_
  iterate 4 (refine pl_take (v := ?_) rfl ?_ ?_; rotate_left; (· (first | (first | ((with_reducible apply yl_loadAgg); assumption; rfl; (repeat (first | with_reducible exact Out.here _ | apply Out.there)); (simp); rfl; rfl) | ((with_reducible apply yl_loadAggR); assumption; rfl; (repeat (first | with_reducible assumption | with_reducible exact Rd.own | with_reducible exact Rd.nil | with_reducible apply Rd.cons)); rfl)) | (go_simp; first | done | with_reducible rfl | rfl | omega | assumption | (simp; omega)))); (try simp only [Act.put, aP, aZ, aS]))
  refine pl_eff rfl (fun Kp hKp => ?_)
  go_simp
  (refine (hm3 _ _ _ _ _ _ (by assumption) ((SlV.mono EntV.mono).pick (by (repeat (first | exact Pick.nil _ | exact Pick.tail _ | exact Out.here _ | apply Out.there | apply Pick.cons | apply Pick.drop))) hE1) ((SlV.mono EntV.mono).pick (by (repeat (first | exact Pick.nil _ | exact Pick.tail _ | exact Out.here _ | apply Out.there | apply Pick.cons | apply Pick.drop))) hE1)).mono ?_; rintro e64 w64 ⟨rfl, hs64⟩)
  (try go_wp2_with fail)
  refine hKp.out _ _ ?_
  clear hKp Kp
  (try simp only [Act.put, aP, aZ, aS])
  iterate 2 (refine pl_take (v := .bool true) rfl ?_ ?_; (· (go_simp; first | done | with_reducible rfl | rfl | omega | assumption | (simp; omega))); (try simp only [Act.put, aP, aZ, aS]))
  iterate 2 (refine pl_take (v := ?_) (by kernel_rfl) ?_ ?_; rotate_left; (· (first | ((with_reducible apply yl_loadAgg); assumption; rfl; (repeat (first | with_reducible exact Out.here _ | apply Out.there)); (simp); rfl; rfl) | ((with_reducible apply yl_loadAggR); assumption; rfl; (repeat (first | with_reducible assumption | with_reducible exact Rd.own | with_reducible exact Rd.nil | with_reducible apply Rd.cons)); rfl))); (try simp only [Act.put, aP, aZ, aS]))
  refine pl_eff (by kernel_rfl) (fun Kp hKp => ?_)
  go_simp
  (refine (ha3 _ _ _ _ _ _ (by assumption) ((SlV.mono EntV.mono).pick (by (repeat (first | exact Pick.nil _ | exact Pick.tail _ | exact Out.here _ | apply Out.there | apply Pick.cons | apply Pick.drop))) hE1) ((SlV.mono EntV.mono).pick (by (repeat (first | exact Pick.nil _ | exact Pick.tail _ | exact Out.here _ | apply Out.there | apply Pick.cons | apply Pick.drop))) hE1)).mono ?_; rintro e69 w69 ⟨rfl, hs69⟩)
  (try go_wp2_with fail)
  refine hKp.out _ _ ?_
  clear hKp Kp
  (try simp only [Act.put, aP, aZ, aS])
  refine pl_take (v := .bool true) (by kernel_rfl) ?_ ?_
  · (go_simp; first | done | with_reducible rfl | rfl | omega | assumption | (simp; omega))
  (try simp only [Act.put, aP, aZ, aS])
  iterate 2 (refine pl_take (v := .bool true) rfl ?_ ?_; (· (go_simp; first | done | with_reducible rfl | rfl | omega | assumption | (simp; omega))); (try simp only [Act.put, aP, aZ, aS]))
  iterate 4 (refine pl_take (v := ?_) (by kernel_rfl) ?_ ?_; rotate_left; (· (go_simp; first | done | with_reducible rfl | rfl | omega | assumption | (simp; omega))); (try simp only [Act.put, aP, aZ, aS]))
  refine pl_eff (by kernel_rfl) (fun Kp hKp => ?_)
  go_simp
  (refine (s3 _ _ (by assumption) (by (repeat (first | exact Pick.nil _ | exact Pick.tail _ | exact Out.here _ | apply Out.there | apply Pick.cons | apply Pick.drop)))).mono ?_; rintro e77 w77 ⟨rfl, hs77⟩)
  (try go_wp2_with fail)
  refine hKp.out _ _ ?_
  clear hKp Kp
  (try simp only [Act.put, aP, aZ, aS])
  refine pl_take (v := .bool true) (by kernel_rfl) ?_ ?_
  · (go_simp; first | done | with_reducible rfl | rfl | omega | assumption | (simp; omega))
  (try simp only [Act.put, aP, aZ, aS])
  iterate 2 (refine pl_take (v := .bool true) rfl ?_ ?_; (· (go_simp; first | done | with_reducible rfl | rfl | omega | assumption | (simp; omega))); (try simp only [Act.put, aP, aZ, aS]))
  iterate 2 (refine pl_take (v := ?_) (by kernel_rfl) ?_ ?_; rotate_left; (· (first | ((with_reducible apply yl_loadAgg); assumption; rfl; (repeat (first | with_reducible exact Out.here _ | apply Out.there)); (simp); rfl; rfl) | ((with_reducible apply yl_loadAggR); assumption; rfl; (repeat (first | with_reducible assumption | with_reducible exact Rd.own | with_reducible exact Rd.nil | with_reducible apply Rd.cons)); rfl))); (try simp only [Act.put, aP, aZ, aS]))
  refine pl_eff (by kernel_rfl) (fun Kp hKp => ?_)
  ((with_reducible apply st_buildMany (sz := 7) (n := 2) (vs := [seenW ia ta ma la ab at_ XA al.length xa, seenW ia ta ma la ab at_ XA al.length xa])); assumption; rfl; rfl; (simp [Value.cells]); omega; omega; omega; intro b83 w83 hs83)
  refine hKp.out _ _ ?_
  clear hKp Kp
  (try simp only [Act.put, aP, aZ, aS])
  refine pl_eff (by kernel_rfl) (fun Kp hKp => ?_)
  go_simp
  (refine (leaders_twin ia ta ma la ab at_ hia hta (by assumption) Rd.own).mono ?_; rintro e84 w84 ⟨rfl, hs84⟩)
  (try go_wp2_with fail)
  refine hKp.out _ _ ?_
  clear hKp Kp
  (try simp only [Act.put, aP, aZ, aS])
  refine pl_take (v := .bool true) (by kernel_rfl) ?_ ?_
  · (go_simp; first | done | with_reducible rfl | rfl | omega | assumption | (simp; omega))
  (try simp only [Act.put, aP, aZ, aS])
  iterate 2 (refine pl_take (v := .bool true) rfl ?_ ?_; (· (go_simp; first | done | with_reducible rfl | rfl | omega | assumption | (simp; omega))); (try simp only [Act.put, aP, aZ, aS]))
  refine pl_eff (by kernel_rfl) (fun Kp hKp => ?_)
  go_simp
  (refine (knows20_spec (by assumption)).mono ?_; rintro e88 w88 ⟨rfl, hs88⟩)
  (try go_wp2_with fail)
  refine hKp.out _ _ ?_
  clear hKp Kp
  (try simp only [Act.put, aP, aZ, aS])
  iterate 2 (refine pl_take (v := .bool true) rfl ?_ ?_; (· (go_simp; first | done | with_reducible rfl | rfl | omega | assumption | (simp; omega))); (try simp only [Act.put, aP, aZ, aS]))
  refine pl_done ?_
  refine hK8.out _ _ ?_
  (try clear hK8 K8)
  refine wp_ret ?_
  go_ret
  exact ⟨rfl, (by assumption : Sat w0 _ _).pick (by (repeat (first | exact Pick.nil _ | exact Pick.tail _ | exact Out.here _ | apply Out.there | apply Pick.cons | apply Pick.drop)))⟩

section
variable {H : Type} {enc : TypeId × Value → H} {W : World}
set_option maxRecDepth 100000 in
theorem open_seen64 {fuel : Nat} {cs : List Value} {x : DataW H × List MemPlace} (h : DataW.trod enc Try.prog W 0 (fun _ => true) true fuel 32 cs = some x) :
    ∃ (id tm cm : Int) (ld : Bool) (b t : Int) (l : List Ent) (A : Option Addr) (ca : Nat), cs = [.int .i64 id, .int .i64 tm, .int .i64 cm, .bool ld, .int .i64 b, .int .i64 t, .slice A l.length ca] ∧ SlV EntV 4 (Reads W) [.slice A l.length ca] l ∧ In64 id ∧ In64 tm ∧ l.length ≤ Rows.uptoBulk x.1 ∧ (∀ e ∈ l, e.d.length ≤ Rows.uptoBulk x.1) := by
  obtain ⟨xs, n, _, rfl, hl, hlen, hf⟩ := DataW.trod_struct Try.underlying32 h
  rw [show Try.prog.cellsOf 32 = 7 from by kernel_rfl] at hl
  match cs, hl with
  | [c0, c1, c2, c3, c4, c5, c6], _ =>
  match xs, hlen with
  | [y0, y1, y2, y3, y4], _ =>
    have h0 := hf 0 _ rfl
    have h1 := hf 1 _ rfl
    have h2 := hf 2 _ rfl
    have h3 := hf 3 _ rfl
    have h4 := hf 4 _ rfl
    dsimp only [List.getElem_toArray, List.getElem_cons_zero, List.getElem_cons_succ] at h0 h1 h2 h3 h4
    rw [show Try.prog.cellsOf 3 = 1 from by kernel_rfl] at h0 h1 h2
    rw [show Try.prog.cellsOf 4 = 1 from by kernel_rfl] at h3
    rw [show Try.prog.cellsOf 30 = 3 from by kernel_rfl] at h4
    obtain ⟨id, e0, b0, w0⟩ := open_intV Try.underlying3 h0
    obtain ⟨tm, e1, b1, w1⟩ := open_intV Try.underlying3 h1
    obtain ⟨cm, e2, b2, w2⟩ := open_intV Try.underlying3 h2
    obtain ⟨ld, e3, w3⟩ := open_boolV Try.underlying4 h3
    obtain ⟨b, t, l, A, ca, e4, hr, u1, u2⟩ := open_view h4
    simp at e0 e1 e2 e3 e4
    obtain ⟨e4, e5, e6⟩ := e4
    subst e0 e1 e2 e3 e4 e5 e6
    refine ⟨id, tm, cm, ld, b, t, l, A, ca, rfl, hr, b0, b1, ?_, fun e he => ?_⟩
    · simp [Rows.uptoBulk, Rows.uptoBulkAll]; omega
    · have := u2 e he; simp [Rows.uptoBulk, Rows.uptoBulkAll]; omega
end

end Go.Proofs.Ytcpcdhlfdabbnaa
