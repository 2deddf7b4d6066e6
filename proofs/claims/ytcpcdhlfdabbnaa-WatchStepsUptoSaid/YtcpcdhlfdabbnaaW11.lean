/-
  WatchMatches: the walk; a server as it was, opened.
-/
import Derived.Test.YtcpcdhlfdabbnaaW9
import Derived.Test.YtcpcdhlfdabbnaaW10
import Derived.Test.YtcpcdhlfdabbnaaEntL
namespace Go.Proofs.Ytcpcdhlfdabbnaa
open Go Go.RowKit Sl Go.Shelf Go.Deep
set_option maxHeartbeats 20000000
set_option maxRecDepth 8000

theorem watchMatches_walk {w0 w : World} {L : List HP} {A B : Option Addr} {ca cb : Nat} (ia ta ma : Int) (la : Bool) (ab at_ : Int) (al : List Ent) (ib tb mb : Int) (lb : Bool) (bb bt : Int) (bl : List Ent)
    (hal : al.length ≤ 1048576) (hda : ∀ x ∈ al, x.d.length ≤ 1048576) (hbl : bl.length ≤ 1048576) (hdb : ∀ x ∈ bl, x.d.length ≤ 1048576) (hs : Sat w0 w L)
    (hE : SlV EntV 4 (Rd w0 L) [.slice A al.length ca] al) (hE' : SlV EntV 4 (Rd w0 L) [.slice B bl.length cb] bl) :
    Calls Try.prog 4 #[.agg #[.int .i64 ia, .int .i64 ta, .int .i64 ma, .bool la, .int .i64 ab, .int .i64 at_, .slice A al.length ca], .agg #[.int .i64 ib, .int .i64 tb, .int .i64 mb, .bool lb, .int .i64 bb, .int .i64 bt, .slice B bl.length cb]] w (RetB w0 L true) := by
  have h64a := ents_in hE
  have h64b := ents_in hE'
  have h15 := fun (w : World) (L' : List HP) (A B : Option Addr) (ca cb : Nat) (hs : Sat w0 w L') (h1 : SlV EntV 4 (Rd w0 L') [.slice A al.length ca] al) (h2 : SlV EntV 4 (Rd w0 L') [.slice B bl.length cb] bl) => match_spec (ca := ca) (cb := cb) ab at_ al bb bt bl hal hda hbl hdb hs h1 h2
  have h20 := fun (w : World) (L' : List HP) (A B : Option Addr) (ca cb : Nat) (hs : Sat w0 w L') (h1 : SlV EntV 4 (Rd w0 L') [.slice A al.length ca] al) (h2 : SlV EntV 4 (Rd w0 L') [.slice B bl.length cb] bl) => refMatch_spec (ca := ca) (cb := cb) ab at_ al bb bt bl hal hda hbl hdb hs h1 h2
  have h25 := fun (w : World) (L' : List HP) (A B : Option Addr) (ca cb : Nat) (hs : Sat w0 w L') (h1 : SlV EntV 4 (Rd w0 L') [.slice A al.length ca] al) (h2 : SlV EntV 4 (Rd w0 L') [.slice B bl.length cb] bl) => agree_spec (ca := ca) (cb := cb) ia ta ma la ab at_ al ib tb mb lb bb bt bl hal hda hbl hdb hs h1 h2
  have h28 := fun (w : World) (L' : List HP) (A B : Option Addr) (ca cb : Nat) (hs : Sat w0 w L') (h1 : SlV EntV 4 (Rd w0 L') [.slice A al.length ca] al) (h2 : SlV EntV 4 (Rd w0 L') [.slice B bl.length cb] bl) => refAgree_spec (ca := ca) (cb := cb) ia ta ma la ab at_ al ib tb mb lb bb bt bl hal hda hbl hdb hs h1 h2
  obtain ⟨n1, hn1⟩ : ∃ n, matchV ⟨ab, at_, al⟩ ⟨bb, bt, bl⟩ = n := ⟨_, rfl⟩
  obtain ⟨n2, hn2⟩ : ∃ n, agreeV ⟨ab, at_, al⟩ ma ⟨bb, bt, bl⟩ mb = n := ⟨_, rfl⟩
  rw [hn1] at h15 h20
  rw [hn2] at h25 h28
  clear hn1 hn2
  go_enter Try.func4, Try.ntmps4
  refine wk_seq (fun K0 hK0 => ?_)
  refine wk_reg ?_
  refine pl_eff rfl (fun Kp hKp => ?_)
  ((with_reducible apply st_box); assumption; (go_simp; rfl); intro b2 w2 hs2; simp only [Value.cells] at hs2)
  refine hKp.out _ _ ?_
  clear hKp Kp
  (try simp only [Act.put, aP, aZ, aS])
  refine pl_eff rfl (fun Kp hKp => ?_)
  ((with_reducible apply st_box); assumption; (go_simp; rfl); intro b3 w3 hs3; simp only [Value.cells] at hs3)
  refine hKp.out _ _ ?_
  clear hKp Kp
  (try simp only [Act.put, aP, aZ, aS])
  refine pl_take (v := .bool false) rfl ?_ ?_
  · (go_simp; first | done | with_reducible rfl | rfl | omega | assumption | (simp; omega))
  (try simp only [Act.put, aP, aZ, aS])
  refine pl_done ?_
  refine hK0.out _ _ ?_
  (try clear hK0 K0)
  refine wk_seq (fun K1 hK1 => ?_)
  refine wk_reg ?_
  refine pl_take (v := ?_) rfl ?_ ?_
  rotate_left
  · (first | ((with_reducible apply yl_loadAgg); assumption; rfl; (repeat (first | with_reducible exact Out.here _ | apply Out.there)); (simp); rfl; rfl) | ((with_reducible apply yl_loadAggR); assumption; rfl; (repeat (first | with_reducible assumption | with_reducible exact Rd.own | with_reducible exact Rd.nil | with_reducible apply Rd.cons)); rfl))
  (try simp only [Act.put, aP, aZ, aS])
  refine pl_eff rfl (fun Kp hKp => ?_)
  go_simp
  (refine (seen_spec ia ta ma la ab at_ al hal hda (by assumption) ((SlV.mono EntV.mono).pick (by (repeat (first | exact Pick.nil _ | exact Pick.tail _ | exact Out.here _ | apply Out.there | apply Pick.cons | apply Pick.drop))) hE)).mono ?_; rintro e8 w8 ⟨XA, xa, xs, hxs, rfl, hs8⟩; have hE1 := ents_slV' (w0 := w0) (L := L) (A := XA) (c := xa) xs hxs h64a)
  (try go_wp2_with fail)
  refine hKp.out _ _ ?_
  clear hKp Kp
  (try simp only [Act.put, aP, aZ, aS])
  refine pl_eff rfl (fun Kp hKp => ?_)
  ((with_reducible apply st_alloc); assumption; intro b5 w5 hs5; simp only [Value.cells] at hs5)
  refine hKp.out _ _ ?_
  clear hKp Kp
  (try simp only [Act.put, aP, aZ, aS])
  refine pl_eff rfl (fun Kp hKp => ?_)
  (first | ((with_reducible apply st_storeAll); assumption; rfl; (go_simp; rfl); (repeat (first | with_reducible exact Out.here _ | apply Out.there)); rfl; (focus (first | (simp [Value.oneCell']; done) | (simp [Value.cells, Value.oneCell']; done))); rfl; intro wr1_3 hsr1_3; simp only [Value.cells] at hsr1_3) | ((with_reducible apply st_store); assumption; rfl; (go_simp; rfl); (repeat (first | with_reducible exact Out.here _ | apply Out.there)); rfl; (first | (focus (simp [Value.oneCell']; done)) | (simp [Value.cells, Value.oneCell'])); (first | (focus (simp; done)) | (simp [Value.cells])); intro wr1_3 hsr1_3; simp only [upd, Value.cells] at hsr1_3))
  refine hKp.out _ _ ?_
  clear hKp Kp
  (try dsimp only [Act.put])
  refine pl_done ?_
  refine hK1.out _ _ ?_
  (try clear hK1 K1)
  refine wk_seq (fun K2 hK2 => ?_)
  refine wk_reg ?_
  refine pl_take (v := ?_) rfl ?_ ?_
  rotate_left
  · (first | ((with_reducible apply yl_loadAgg); assumption; rfl; (repeat (first | with_reducible exact Out.here _ | apply Out.there)); (simp); rfl; rfl) | ((with_reducible apply yl_loadAggR); assumption; rfl; (repeat (first | with_reducible assumption | with_reducible exact Rd.own | with_reducible exact Rd.nil | with_reducible apply Rd.cons)); rfl))
  (try simp only [Act.put, aP, aZ, aS])
  refine pl_eff rfl (fun Kp hKp => ?_)
  go_simp
  (refine (seen_spec ib tb mb lb bb bt bl hbl hdb (by assumption) ((SlV.mono EntV.mono).pick (by (repeat (first | exact Pick.nil _ | exact Pick.tail _ | exact Out.here _ | apply Out.there | apply Pick.cons | apply Pick.drop))) hE')).mono ?_; rintro e10 w10 ⟨YA, ya, ys, hys, rfl, hs10⟩; have hE2 := ents_slV' (w0 := w0) (L := L) (A := YA) (c := ya) ys hys h64b)
  (try go_wp2_with fail)
  refine hKp.out _ _ ?_
  clear hKp Kp
  (try simp only [Act.put, aP, aZ, aS])
  refine pl_eff rfl (fun Kp hKp => ?_)
  ((with_reducible apply st_alloc); assumption; intro b6 w6 hs6; simp only [Value.cells] at hs6)
  refine hKp.out _ _ ?_
  clear hKp Kp
  (try simp only [Act.put, aP, aZ, aS])
  refine pl_eff rfl (fun Kp hKp => ?_)
  (first | ((with_reducible apply st_storeAll); assumption; rfl; (go_simp; rfl); (repeat (first | with_reducible exact Out.here _ | apply Out.there)); rfl; (focus (first | (simp [Value.oneCell']; done) | (simp [Value.cells, Value.oneCell']; done))); rfl; intro wr2_3 hsr2_3; simp only [Value.cells] at hsr2_3) | ((with_reducible apply st_store); assumption; rfl; (go_simp; rfl); (repeat (first | with_reducible exact Out.here _ | apply Out.there)); rfl; (first | (focus (simp [Value.oneCell']; done)) | (simp [Value.cells, Value.oneCell'])); (first | (focus (simp; done)) | (simp [Value.cells])); intro wr2_3 hsr2_3; simp only [upd, Value.cells] at hsr2_3))
  refine hKp.out _ _ ?_
  clear hKp Kp
  (try dsimp only [Act.put])
  refine pl_done ?_
  refine hK2.out _ _ ?_
  (try clear hK2 K2)
  refine wk_seq (fun K3 hK3 => ?_)
  refine rg_start rfl (by assumption) (fun wr3 hsr3 => ?_)
  refine rg_take (i := 0) (v := ?_) rfl (by kernel_rfl) (by kernel_rfl) (by kernel_rfl) (fun _ _ _ h => h) rfl (by assumption) ?_ ?_
  rotate_left
  · intro w hSw; (go_simp; first | done | with_reducible rfl | rfl | omega | assumption | (simp; omega))
  (try simp only [Act.put, aP, aZ, aS])
  refine rg_take (i := 1) (v := ?_) rfl (by kernel_rfl) (by kernel_rfl) (by kernel_rfl) (fun _ _ _ h => h) rfl (by assumption) ?_ ?_
  rotate_left
  · intro w hSw; (first | ((with_reducible apply yl_loadAgg); assumption; rfl; (repeat (first | with_reducible exact Out.here _ | apply Out.there)); (simp); rfl; rfl) | ((with_reducible apply yl_loadAggR); assumption; rfl; (repeat (first | with_reducible assumption | with_reducible exact Rd.own | with_reducible exact Rd.nil | with_reducible apply Rd.cons)); rfl))
  (try simp only [Act.put, aP, aZ, aS])
  refine rg_take (i := 2) (v := ?_) rfl (by kernel_rfl) (by kernel_rfl) (by kernel_rfl) (fun _ _ _ h => h) rfl (by assumption) ?_ ?_
  rotate_left
  · intro w hSw; (go_simp; first | done | with_reducible rfl | rfl | omega | assumption | (simp; omega))
  (try simp only [Act.put, aP, aZ, aS])
  refine rg_take (i := 3) (v := ?_) rfl (by kernel_rfl) (by kernel_rfl) (by kernel_rfl) (fun _ _ _ h => h) rfl (by assumption) ?_ ?_
  rotate_left
  · intro w hSw; (first | ((with_reducible apply yl_loadAgg); assumption; rfl; (repeat (first | with_reducible exact Out.here _ | apply Out.there)); (simp); rfl; rfl) | ((with_reducible apply yl_loadAggR); assumption; rfl; (repeat (first | with_reducible assumption | with_reducible exact Rd.own | with_reducible exact Rd.nil | with_reducible apply Rd.cons)); rfl))
  (try simp only [Act.put, aP, aZ, aS])
  refine rg_take (i := 5) (v := ?_) rfl (by kernel_rfl) (by kernel_rfl) (by kernel_rfl) (fun _ _ _ h => h) rfl (by assumption) ?_ ?_
  rotate_left
  · intro w hSw; (go_simp; first | done | with_reducible rfl | rfl | omega | assumption | (simp; omega))
  (try simp only [Act.put, aP, aZ, aS])
  refine rg_take (i := 6) (v := ?_) rfl (by kernel_rfl) (by kernel_rfl) (by kernel_rfl) (fun _ _ _ h => h) rfl (by assumption) ?_ ?_
  rotate_left
  · intro w hSw; (first | ((with_reducible apply yl_loadAgg); assumption; rfl; (repeat (first | with_reducible exact Out.here _ | apply Out.there)); (simp); rfl; rfl) | ((with_reducible apply yl_loadAggR); assumption; rfl; (repeat (first | with_reducible assumption | with_reducible exact Rd.own | with_reducible exact Rd.nil | with_reducible apply Rd.cons)); rfl))
  (try simp only [Act.put, aP, aZ, aS])
  refine rg_take (i := 7) (v := ?_) rfl (by kernel_rfl) (by kernel_rfl) (by kernel_rfl) (fun _ _ _ h => h) rfl (by assumption) ?_ ?_
  rotate_left
  · intro w hSw; (go_simp; first | done | with_reducible rfl | rfl | omega | assumption | (simp; omega))
  (try simp only [Act.put, aP, aZ, aS])
  refine rg_take (i := 8) (v := ?_) rfl (by kernel_rfl) (by kernel_rfl) (by kernel_rfl) (fun _ _ _ h => h) rfl (by assumption) ?_ ?_
  rotate_left
  · intro w hSw; (first | ((with_reducible apply yl_loadAgg); assumption; rfl; (repeat (first | with_reducible exact Out.here _ | apply Out.there)); (simp); rfl; rfl) | ((with_reducible apply yl_loadAggR); assumption; rfl; (repeat (first | with_reducible assumption | with_reducible exact Rd.own | with_reducible exact Rd.nil | with_reducible apply Rd.cons)); rfl))
  (try simp only [Act.put, aP, aZ, aS])
  refine rg_one (i := 4) (by kernel_rfl) rfl rfl (fun Kp hKp => ?_)
  go_simp
  (refine (h15 _ _ _ _ _ _ (by assumption) ((SlV.mono EntV.mono).pick (by (repeat (first | exact Pick.nil _ | exact Pick.tail _ | exact Out.here _ | apply Out.there | apply Pick.cons | apply Pick.drop))) hE1) ((SlV.mono EntV.mono).pick (by (repeat (first | exact Pick.nil _ | exact Pick.tail _ | exact Out.here _ | apply Out.there | apply Pick.cons | apply Pick.drop))) hE2)).mono ?_; rintro e15 w15 ⟨rfl, hs15⟩)
  (try go_wp2_with fail)
  refine rg_back (hK := hKp) ?_ (fun hsk15 => ?_)
  · (first | assumption | (apply Sat.drew; assumption) | (apply Sat.pick; assumption; (repeat (first | exact Pick.nil _ | with_reducible exact Pick.tail _ | with_reducible exact Out.here _ | apply Out.there | apply Pick.cons | apply Pick.drop))))
  clear hKp Kp
  have hsz15 := hs15
  (try simp only [Act.put, aP, aZ, aS])
  refine rg_one (i := 9) (by kernel_rfl) rfl rfl (fun Kp hKp => ?_)
  go_simp
  (refine (h20 _ _ _ _ _ _ (by assumption) ((SlV.mono EntV.mono).pick (by (repeat (first | exact Pick.nil _ | exact Pick.tail _ | exact Out.here _ | apply Out.there | apply Pick.cons | apply Pick.drop))) hE) ((SlV.mono EntV.mono).pick (by (repeat (first | exact Pick.nil _ | exact Pick.tail _ | exact Out.here _ | apply Out.there | apply Pick.cons | apply Pick.drop))) hE')).mono ?_; rintro e20 w20 ⟨rfl, hs20⟩)
  (try go_wp2_with fail)
  refine rg_back (hK := hKp) ?_ (fun hsk20 => ?_)
  · (first | assumption | (apply Sat.drew; assumption) | (apply Sat.pick; assumption; (repeat (first | exact Pick.nil _ | with_reducible exact Pick.tail _ | with_reducible exact Out.here _ | apply Out.there | apply Pick.cons | apply Pick.drop))))
  clear hKp Kp
  have hsz20 := hs20
  (try simp only [Act.put, aP, aZ, aS])
  refine rg_take (i := 10) (v := .bool true) rfl (by kernel_rfl) (by kernel_rfl) (by kernel_rfl) (fun _ _ _ h => h) rfl (by assumption) ?_ ?_
  · intro w hSw; (go_simp; first | done | with_reducible rfl | rfl | omega | assumption | (simp; omega))
  (try simp only [Act.put, aP, aZ, aS])
  refine rg_take (i := 11) (v := .bool true) rfl (by kernel_rfl) (by kernel_rfl) (by kernel_rfl) (fun _ _ _ h => h) rfl (by assumption) ?_ ?_
  · intro w hSw; (go_simp; first | done | with_reducible rfl | rfl | omega | assumption | (simp; omega))
  (try simp only [Act.put, aP, aZ, aS])
  refine rg_take (i := 12) (v := ?_) rfl (by kernel_rfl) (by kernel_rfl) (by kernel_rfl) (fun _ _ _ h => h) (by kernel_rfl) (by assumption) ?_ ?_
  rotate_left
  · intro w hSw; (first | ((with_reducible apply yl_loadAgg); assumption; rfl; (repeat (first | with_reducible exact Out.here _ | apply Out.there)); (simp); rfl; rfl) | ((with_reducible apply yl_loadAggR); assumption; rfl; (repeat (first | with_reducible assumption | with_reducible exact Rd.own | with_reducible exact Rd.nil | with_reducible apply Rd.cons)); rfl))
  (try simp only [Act.put, aP, aZ, aS])
  refine rg_take (i := 13) (v := ?_) rfl (by kernel_rfl) (by kernel_rfl) (by kernel_rfl) (fun _ _ _ h => h) (by kernel_rfl) (by assumption) ?_ ?_
  rotate_left
  · intro w hSw; (first | ((with_reducible apply yl_loadAgg); assumption; rfl; (repeat (first | with_reducible exact Out.here _ | apply Out.there)); (simp); rfl; rfl) | ((with_reducible apply yl_loadAggR); assumption; rfl; (repeat (first | with_reducible assumption | with_reducible exact Rd.own | with_reducible exact Rd.nil | with_reducible apply Rd.cons)); rfl))
  (try simp only [Act.put, aP, aZ, aS])
  refine rg_take (i := 15) (v := ?_) rfl (by kernel_rfl) (by kernel_rfl) (by kernel_rfl) (fun _ _ _ h => h) (by kernel_rfl) (by assumption) ?_ ?_
  rotate_left
  · intro w hSw; (first | ((with_reducible apply yl_loadAgg); assumption; rfl; (repeat (first | with_reducible exact Out.here _ | apply Out.there)); (simp); rfl; rfl) | ((with_reducible apply yl_loadAggR); assumption; rfl; (repeat (first | with_reducible assumption | with_reducible exact Rd.own | with_reducible exact Rd.nil | with_reducible apply Rd.cons)); rfl))
  (try simp only [Act.put, aP, aZ, aS])
  refine rg_take (i := 16) (v := ?_) rfl (by kernel_rfl) (by kernel_rfl) (by kernel_rfl) (fun _ _ _ h => h) (by kernel_rfl) (by assumption) ?_ ?_
  rotate_left
  · intro w hSw; (first | ((with_reducible apply yl_loadAgg); assumption; rfl; (repeat (first | with_reducible exact Out.here _ | apply Out.there)); (simp); rfl; rfl) | ((with_reducible apply yl_loadAggR); assumption; rfl; (repeat (first | with_reducible assumption | with_reducible exact Rd.own | with_reducible exact Rd.nil | with_reducible apply Rd.cons)); rfl))
  (try simp only [Act.put, aP, aZ, aS])
  refine rg_one (i := 14) (by kernel_rfl) rfl (by kernel_rfl) (fun Kp hKp => ?_)
  go_simp
  (refine (h25 _ _ _ _ _ _ (by assumption) ((SlV.mono EntV.mono).pick (by (repeat (first | exact Pick.nil _ | exact Pick.tail _ | exact Out.here _ | apply Out.there | apply Pick.cons | apply Pick.drop))) hE1) ((SlV.mono EntV.mono).pick (by (repeat (first | exact Pick.nil _ | exact Pick.tail _ | exact Out.here _ | apply Out.there | apply Pick.cons | apply Pick.drop))) hE2)).mono ?_; rintro e25 w25 ⟨rfl, hs25⟩)
  (try go_wp2_with fail)
  refine rg_back (hK := hKp) ?_ (fun hsk25 => ?_)
  · (first | assumption | (apply Sat.drew; assumption) | (apply Sat.pick; assumption; (repeat (first | exact Pick.nil _ | with_reducible exact Pick.tail _ | with_reducible exact Out.here _ | apply Out.there | apply Pick.cons | apply Pick.drop))))
  clear hKp Kp
  have hsz25 := hs25
  (try simp only [Act.put, aP, aZ, aS])
  refine rg_one (i := 17) (by kernel_rfl) rfl (by kernel_rfl) (fun Kp hKp => ?_)
  go_simp
  (refine (h28 _ _ _ _ _ _ (by assumption) ((SlV.mono EntV.mono).pick (by (repeat (first | exact Pick.nil _ | exact Pick.tail _ | exact Out.here _ | apply Out.there | apply Pick.cons | apply Pick.drop))) hE) ((SlV.mono EntV.mono).pick (by (repeat (first | exact Pick.nil _ | exact Pick.tail _ | exact Out.here _ | apply Out.there | apply Pick.cons | apply Pick.drop))) hE')).mono ?_; rintro e28 w28 ⟨rfl, hs28⟩)
  (try go_wp2_with fail)
  refine rg_back (hK := hKp) ?_ (fun hsk28 => ?_)
  · (first | assumption | (apply Sat.drew; assumption) | (apply Sat.pick; assumption; (repeat (first | exact Pick.nil _ | with_reducible exact Pick.tail _ | with_reducible exact Out.here _ | apply Out.there | apply Pick.cons | apply Pick.drop))))
  clear hKp Kp
  have hsz28 := hs28
  (try simp only [Act.put, aP, aZ, aS])
  refine rg_take (i := 18) (v := .bool true) rfl (by kernel_rfl) (by kernel_rfl) (by kernel_rfl) (fun _ _ _ h => h) (by kernel_rfl) (by assumption) ?_ ?_
  · intro w hSw; (go_simp; first | done | with_reducible rfl | rfl | omega | assumption | (simp; omega))
  (try simp only [Act.put, aP, aZ, aS])
  refine rg_take (i := 19) (v := .bool true) rfl (by kernel_rfl) (by kernel_rfl) (by kernel_rfl) (fun _ _ _ h => h) rfl (by assumption) ?_ ?_
  · intro w hSw; (go_simp; first | done | with_reducible rfl | rfl | omega | assumption | (simp; omega))
  (try simp only [Act.put, aP, aZ, aS])
  refine rg_take (i := 20) (v := .bool true) rfl (by kernel_rfl) (by kernel_rfl) (by kernel_rfl) (fun _ _ _ h => h) rfl (by assumption) ?_ ?_
  · intro w hSw; (go_simp; first | done | with_reducible rfl | rfl | omega | assumption | (simp; omega))
  (try simp only [Act.put, aP, aZ, aS])
  refine rg_take (i := 21) (v := ?_) rfl (by kernel_rfl) (by kernel_rfl) (by kernel_rfl) (fun _ _ _ h => h) (by kernel_rfl) (by assumption) ?_ ?_
  rotate_left
  · intro w hSw; (go_simp; first | done | with_reducible rfl | rfl | omega | assumption | (simp; omega))
  (try simp only [Act.put, aP, aZ, aS])
  refine rg_take (i := 22) (v := ?_) rfl (by kernel_rfl) (by kernel_rfl) (by kernel_rfl) (fun _ _ _ h => h) (by kernel_rfl) (by assumption) ?_ ?_
  rotate_left
  · intro w hSw; (first | ((with_reducible apply yl_loadAgg); assumption; rfl; (repeat (first | with_reducible exact Out.here _ | apply Out.there)); (simp); rfl; rfl) | ((with_reducible apply yl_loadAggR); assumption; rfl; (repeat (first | with_reducible assumption | with_reducible exact Rd.own | with_reducible exact Rd.nil | with_reducible apply Rd.cons)); rfl))
  (try simp only [Act.put, aP, aZ, aS])
  refine rg_take (i := 23) (v := ?_) rfl (by kernel_rfl) (by kernel_rfl) (by kernel_rfl) (fun _ _ _ h => h) (by kernel_rfl) (by assumption) ?_ ?_
  rotate_left
  · intro w hSw; (go_simp; first | done | with_reducible rfl | rfl | omega | assumption | (simp; omega))
  (try simp only [Act.put, aP, aZ, aS])
  refine rg_take (i := 24) (v := ?_) rfl (by kernel_rfl) (by kernel_rfl) (by kernel_rfl) (fun _ _ _ h => h) (by kernel_rfl) (by assumption) ?_ ?_
  rotate_left
  · intro w hSw; (first | ((with_reducible apply yl_loadAgg); assumption; rfl; (repeat (first | with_reducible exact Out.here _ | apply Out.there)); (simp); rfl; rfl) | ((with_reducible apply yl_loadAggR); assumption; rfl; (repeat (first | with_reducible assumption | with_reducible exact Rd.own | with_reducible exact Rd.nil | with_reducible apply Rd.cons)); rfl))
  (try simp only [Act.put, aP, aZ, aS])
  refine rg_one (i := 25) (by kernel_rfl) rfl (by kernel_rfl) (fun Kp hKp => ?_)
  go_simp
  (refine (same12_spec ab at_ al hal (by assumption) ((SlV.mono EntV.mono).pick (by (repeat (first | exact Pick.nil _ | exact Pick.tail _ | exact Out.here _ | apply Out.there | apply Pick.cons | apply Pick.drop))) hE1) ((SlV.mono EntV.mono).pick (by (repeat (first | exact Pick.nil _ | exact Pick.tail _ | exact Out.here _ | apply Out.there | apply Pick.cons | apply Pick.drop))) hE)).mono ?_; rintro e36 w36 ⟨rfl, hs36⟩)
  (try go_wp2_with fail)
  refine rg_back (hK := hKp) ?_ (fun hsk36 => ?_)
  · (first | assumption | (apply Sat.drew; assumption) | (apply Sat.pick; assumption; (repeat (first | exact Pick.nil _ | with_reducible exact Pick.tail _ | with_reducible exact Out.here _ | apply Out.there | apply Pick.cons | apply Pick.drop))))
  clear hKp Kp
  have hsz36 := hs36
  (try simp only [Act.put, aP, aZ, aS])
  refine rg_take (i := 26) (v := .bool true) rfl (by kernel_rfl) (by kernel_rfl) (by kernel_rfl) (fun _ _ _ h => h) rfl (by assumption) ?_ ?_
  · intro w hSw; (go_simp; first | done | with_reducible rfl | rfl | omega | assumption | (simp; omega))
  (try simp only [Act.put, aP, aZ, aS])
  refine rg_take (i := 27) (v := .bool true) rfl (by kernel_rfl) (by kernel_rfl) (by kernel_rfl) (fun _ _ _ h => h) rfl (by assumption) ?_ ?_
  · intro w hSw; (go_simp; first | done | with_reducible rfl | rfl | omega | assumption | (simp; omega))
  (try simp only [Act.put, aP, aZ, aS])
  refine rg_one (i := 28) (by kernel_rfl) rfl (by kernel_rfl) (fun Kp hKp => ?_)
  go_simp
  (refine (knows20_spec (by assumption)).mono ?_; rintro e39 w39 ⟨rfl, hs39⟩)
  (try go_wp2_with fail)
  refine rg_back (hK := hKp) ?_ (fun hsk39 => ?_)
  · (first | assumption | (apply Sat.drew; assumption) | (apply Sat.pick; assumption; (repeat (first | exact Pick.nil _ | with_reducible exact Pick.tail _ | with_reducible exact Out.here _ | apply Out.there | apply Pick.cons | apply Pick.drop))))
  clear hKp Kp
  have hsz39 := hs39
  (try simp only [Act.put, aP, aZ, aS])
  refine rg_take (i := 29) (v := .bool true) rfl (by kernel_rfl) (by kernel_rfl) (by kernel_rfl) (fun _ _ _ h => h) rfl (by assumption) ?_ ?_
  · intro w hSw; (go_simp; first | done | with_reducible rfl | rfl | omega | assumption | (simp; omega))
  (try simp only [Act.put, aP, aZ, aS])
  refine rg_take (i := 30) (v := .bool true) rfl (by kernel_rfl) (by kernel_rfl) (by kernel_rfl) (fun _ _ _ h => h) rfl (by assumption) ?_ ?_
  · intro w hSw; (go_simp; first | done | with_reducible rfl | rfl | omega | assumption | (simp; omega))
  (try simp only [Act.put, aP, aZ, aS])
  refine rg_done (by kernel_rfl) ?_
  refine hK3.out _ _ ?_
  (try clear hK3 K3)
  refine wp_ret ?_
  go_ret
  exact ⟨rfl, (by assumption : Sat w0 _ _).pick (by (repeat (first | exact Pick.nil _ | exact Pick.tail _ | exact Out.here _ | apply Out.there | apply Pick.cons | apply Pick.drop)))⟩

theorem mem_le_sumW (l : List Ent) : ∀ e ∈ l, e.d.length ≤ (l.map fun e => e.d.length).sum := by
  induction l with
  | nil => intro e h; cases h
  | cons a l ih =>
    intro e h
    simp only [List.map_cons, List.sum_cons]
    rcases List.mem_cons.1 h with rfl | h
    · omega
    · have := ih e h; omega

section
variable {H : Type} {enc : TypeId × Value → H} {W : World}
set_option maxRecDepth 100000 in
theorem open_view {fuel : Nat} {cs : List Value} {x : DataW H × List MemPlace} (h : DataW.trod enc Try.prog W 0 (fun _ => true) true fuel 30 cs = some x) :
    ∃ (b t : Int) (l : List Ent) (A : Option Addr) (ca : Nat), cs = [.int .i64 b, .int .i64 t, .slice A l.length ca] ∧ SlV EntV 4 (Reads W) [.slice A l.length ca] l ∧ l.length ≤ Rows.uptoBulk x.1 ∧ (∀ e ∈ l, e.d.length ≤ Rows.uptoBulk x.1) := by
  obtain ⟨xs, n, _, rfl, hl, hlen, hf⟩ := DataW.trod_struct Try.underlying30 h
  rw [show Try.prog.cellsOf 30 = 3 from by kernel_rfl] at hl
  match cs, hl with
  | [c0, c1, c2], _ =>
  match xs, hlen with
  | [y0, y1, y2], _ =>
    have h0 := hf 0 _ rfl
    have h1 := hf 1 _ rfl
    have h2 := hf 2 _ rfl
    dsimp only [List.getElem_toArray, List.getElem_cons_zero, List.getElem_cons_succ] at h0 h1 h2
    rw [show Try.prog.cellsOf 3 = 1 from by kernel_rfl] at h0 h1
    rw [show Try.prog.cellsOf 24 = 1 from by kernel_rfl] at h2
    obtain ⟨b, e0, b0, w0⟩ := open_intV Try.underlying3 h0
    obtain ⟨t, e1, b1, w1⟩ := open_intV Try.underlying3 h1
    obtain ⟨es, ⟨A, ca, vs, e2, hr⟩, w2, u2⟩ := open_slV (f := EntV) (wt := fun e => e.d.length) (sz := 4) Try.underlying24 (by kernel_rfl) (by omega) (fun _ _ _ h => by obtain ⟨e, h1, h2⟩ := open_entry h; exact ⟨e, h1, by omega⟩) h2
    simp at e0 e1 e2
    subst e0 e1 e2
    refine ⟨b, t, es, A, ca, rfl, ⟨A, ca, vs, rfl, hr⟩, ?_, fun e he => ?_⟩
    · simp [Rows.uptoBulk, Rows.uptoBulkAll]; omega
    · have := mem_le_sumW es e he; simp [Rows.uptoBulk, Rows.uptoBulkAll]; omega

set_option maxRecDepth 100000 in
theorem open_seen {fuel : Nat} {cs : List Value} {x : DataW H × List MemPlace} (h : DataW.trod enc Try.prog W 0 (fun _ => true) true fuel 32 cs = some x) :
    ∃ (id tm cm : Int) (ld : Bool) (b t : Int) (l : List Ent) (A : Option Addr) (ca : Nat), cs = [.int .i64 id, .int .i64 tm, .int .i64 cm, .bool ld, .int .i64 b, .int .i64 t, .slice A l.length ca] ∧ SlV EntV 4 (Reads W) [.slice A l.length ca] l ∧ l.length ≤ Rows.uptoBulk x.1 ∧ (∀ e ∈ l, e.d.length ≤ Rows.uptoBulk x.1) := by
  obtain ⟨xs, n, _, rfl, hl, hlen, hf⟩ := DataW.trod_struct Try.underlying32 h
  rw [show Try.prog.cellsOf 32 = 7 from by kernel_rfl] at hl
  match cs, hl with
  | [c0, c1, c2, c3, c4, c5, c6], _ =>
  match xs, hlen with
  | [y0, y1, y2, y3, y4], _ =>
    have h0 := hf 0 _ rfl
    have h1 := hf 1 _ rfl
    have h2 := hf 2 _ rfl
    have h3 := hf 3 _ rfl
    have h4 := hf 4 _ rfl
    dsimp only [List.getElem_toArray, List.getElem_cons_zero, List.getElem_cons_succ] at h0 h1 h2 h3 h4
    rw [show Try.prog.cellsOf 3 = 1 from by kernel_rfl] at h0 h1 h2
    rw [show Try.prog.cellsOf 4 = 1 from by kernel_rfl] at h3
    rw [show Try.prog.cellsOf 30 = 3 from by kernel_rfl] at h4
    obtain ⟨id, e0, b0, w0⟩ := open_intV Try.underlying3 h0
    obtain ⟨tm, e1, b1, w1⟩ := open_intV Try.underlying3 h1
    obtain ⟨cm, e2, b2, w2⟩ := open_intV Try.underlying3 h2
    obtain ⟨ld, e3, w3⟩ := open_boolV Try.underlying4 h3
    obtain ⟨b, t, l, A, ca, e4, hr, u1, u2⟩ := open_view h4
    simp at e0 e1 e2 e3 e4
    obtain ⟨e4, e5, e6⟩ := e4
    subst e0 e1 e2 e3 e4 e5 e6
    refine ⟨id, tm, cm, ld, b, t, l, A, ca, rfl, hr, ?_, fun e he => ?_⟩
    · simp [Rows.uptoBulk, Rows.uptoBulkAll]; omega
    · have := u2 e he; simp [Rows.uptoBulk, Rows.uptoBulkAll]; omega
end
end Go.Proofs.Ytcpcdhlfdabbnaa
