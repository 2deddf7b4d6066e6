/-
  The disk: Append, Sync, SyncDir, Read, Cut, Down.
-/
import Derived.Test.YtiofgdgmlnhekaaVd10
namespace Go.Proofs.Ytiofgdgmlnhekaa
open Go Go.RowKit Sl Go.Shelf Go.Maps
set_option maxHeartbeats 20000000
set_option maxRecDepth 8000

section
variable {w0 w : World} {L M : List HP} {p : Nat} {D : VD}
theorem appendF_spec {b m c : Nat} {B : Option Addr} (r : FRow) (l : List UInt8) (hm : m = l.length) (hl : r.b.length + m ≤ 2199023255552) (hcl : Cl w0 M ⟨b, 0, none⟩ (.slice B m c)) (hR : Rd w0 M B m 1 (B8 l)) (hs : Sat w0 w (fBlk r :: fOwn r :: M)) :
    Calls Try.prog 28 #[.pointer (some ⟨r.ad, 0, none⟩), .pointer (some ⟨b, 0, none⟩)] w (fun e w' => e = .returned (.tuple #[]) ∧ ∃ r' : FRow, r'.ad = r.ad ∧ (r'.b, r'.sy) = (r.b ++ l, r.sy) ∧ Sat w0 w' (fBlk r' :: fOwn r' :: M)) := by
  obtain ⟨ad, A, cap, fb, sy⟩ := r
  simp only at hl hs ⊢
  obtain ⟨k, hk⟩ : ∃ k, fb.length = k := ⟨_, rfl⟩
  have hfin := hidI (fun (w : World) (A' : Option Addr) (c' : Nat) (hs : Sat w0 w (blk ad (.cells #[.slice A' (k + m) c', .int .i64 (sy : Int)] 60 (0, 0)) :: own 5 1 A' c' (k + m) (B8 fb ++ B8 l) :: M)) =>
    show ∃ r' : FRow, r'.ad = ad ∧ (r'.b, r'.sy) = (fb ++ l, sy) ∧ Sat w0 w (fBlk r' :: fOwn r' :: M) from ⟨⟨ad, A', c', fb ++ l, sy⟩, rfl, rfl, by
      show Sat w0 w (blk ad (.cells #[.slice A' (fb ++ l).length c', .int .i64 (sy : Int)] 60 (0, 0)) :: own 5 1 A' c' (fb ++ l).length (B8 (fb ++ l)) :: M)
      rw [List.length_append, hk, ← hm, B8_app]; exact hs⟩)
  have hs1 : Sat w0 w (blk ad (.cells #[.slice A k cap, .int .i64 (sy : Int)] 60 (0, 0)) :: own 5 1 A cap k (B8 fb) :: M) := by rw [← hk]; exact hs
  rw [hk] at hl
  clear hs hk hm
  have h8 := B8_one l
  obtain ⟨xs, hxs⟩ : ∃ xs, B8 fb = xs := ⟨_, rfl⟩
  obtain ⟨ys, hys⟩ : ∃ ys, B8 l = ys := ⟨_, rfl⟩
  rw [hxs] at hs1 hfin
  rw [hys] at hR hfin h8
  clear hxs hys
  go_enter Try.func28, Try.ntmps28
  refine rg_start2 (L := M) rfl (by assumption) (by (repeat (first | exact Pick.nil _ | with_reducible exact Pick.tail _ | with_reducible exact Out.here _ | apply Out.there | apply Pick.cons | apply Pick.drop))) (fun wr0 hsr0 hsq0 => ?_)
  have hsz0 := hsr0
  refine rkT 0 (v := ?_) rfl (hy := ?_) (h := ?_); rotate_left; (· intro w hSw; (go_simp; first | done | with_reducible rfl | rfl | omega | assumption | (simp; omega))); (try simp only [Act.put, aP, aZ, aS]); refine rkT 1 (v := ?_) rfl (hy := ?_) (h := ?_); rotate_left; (· intro w hSw; (go_simp; first | done | with_reducible rfl | rfl | omega | assumption | (simp; omega))); (try simp only [Act.put, aP, aZ, aS]); refine rkT 2 (v := ?_) rfl (hy := ?_) (h := ?_); rotate_left; (· intro w hSw; (go_simp; first | done | with_reducible rfl | rfl | omega | assumption | (simp; omega))); (try simp only [Act.put, aP, aZ, aS]); refine rkT 3 (v := ?_) rfl (hy := ?_) (h := ?_); rotate_left; (· intro w hSw; (go_simp; first | done | with_reducible rfl | rfl | omega | assumption | (simp; omega))); (try simp only [Act.put, aP, aZ, aS]); refine rkT 5 (v := ?_) rfl (hy := ?_) (h := ?_); rotate_left; (· intro w hSw; ((with_reducible apply yl_load); assumption; rfl; (repeat (first | with_reducible assumption | ((with_reducible apply Cl.own); exact rfl) | ((with_reducible apply Cl.blkL); exact rfl) | with_reducible apply Cl.cons)); rfl)); (try simp only [Act.put, aP, aZ, aS]); refine rg_one (i := 4) (by kernel_rfl) rfl rfl (fun Kp hKp => ?_); ((with_reducible apply st_load); assumption; rfl; (repeat (first | with_reducible assumption | ((with_reducible apply Cl.own); exact rfl) | ((with_reducible apply Cl.blkL); exact rfl) | with_reducible apply Cl.cons))); refine rg_back (hK := hKp) ?_ (fun hsk7 => ?_); (· (first | assumption | (apply Sat.drew; assumption) | (apply Sat.pick; assumption; (repeat (first | exact Pick.nil _ | with_reducible exact Pick.tail _ | with_reducible exact Out.here _ | apply Out.there | apply Pick.cons | apply Pick.drop))))); clear hKp Kp
  have hsz7 := hsr0
  (try simp only [Act.put, aP, aZ, aS]); refine rg_one (i := 6) (by kernel_rfl) rfl rfl (fun Kp hKp => ?_); ((with_reducible apply st_append); assumption; rfl; rfl; (repeat (first | with_reducible exact Out.here _ | apply Out.there)); (repeat (first | with_reducible assumption | with_reducible exact Rd.own | with_reducible exact Rd.nil | with_reducible apply Rd.cons)); (simp only [maxLen]; omega); omega; intro A9 c9 w9 hs9 hc9); refine rg_back (hK := hKp) ?_ (fun hsk9 => ?_); (· (first | assumption | (apply Sat.drew; assumption) | (apply Sat.pick; assumption; (repeat (first | exact Pick.nil _ | with_reducible exact Pick.tail _ | with_reducible exact Out.here _ | apply Out.there | apply Pick.cons | apply Pick.drop))))); clear hKp Kp
  have hsz9 := hs9
  (try simp only [Act.put, aP, aZ, aS]); refine rkT 7 (v := ?_) rfl (hy := ?_) (h := ?_); rotate_left; (· intro w hSw; (go_simp; first | done | with_reducible rfl | rfl | omega | assumption | (simp; omega))); (try simp only [Act.put, aP, aZ, aS]); refine rkT 8 (v := ?_) rfl (hy := ?_) (h := ?_); rotate_left; (· intro w hSw; (go_simp; first | done | with_reducible rfl | rfl | omega | assumption | (simp; omega))); (try simp only [Act.put, aP, aZ, aS]); refine rg_one (i := 9) (by kernel_rfl) rfl rfl (fun Kp hKp => ?_); (first | ((with_reducible apply st_store1); assumption; rfl; (go_simp; rfl); (repeat (first | with_reducible exact Out.here _ | apply Out.there)); rfl; rfl; simp; intro wr0_9 hsr0_9; (try simp only [aP] at hsr0_9); (try simp only [aS] at hsr0_9); (try simp only [aZ] at hsr0_9)) | ((with_reducible apply st_store_own); assumption; rfl; (go_simp; rfl); (repeat (first | with_reducible exact Out.here _ | apply Out.there)); rfl; rfl; omega; intro wr0_9 hsr0_9)); refine rg_back (hK := hKp) ?_ (fun hskr0_9 => ?_); (· (first | assumption | (apply Sat.drew; assumption) | (apply Sat.pick; assumption; (repeat (first | exact Pick.nil _ | with_reducible exact Pick.tail _ | with_reducible exact Out.here _ | apply Out.there | apply Pick.cons | apply Pick.drop))))); clear hKp Kp
  have hszr0_9 := hsr0_9
  (try dsimp only [Act.put]); refine rg_done (by kernel_rfl) ?_
  -- the end
  go_end0
  exact ⟨rfl, hfin.out _ _ _ ((by assumption : Sat w0 _ (blk ad _ :: _)).pick (by (repeat (first | exact Pick.nil _ | exact Pick.tail _ | exact Out.here _ | apply Out.there | apply Pick.cons | apply Pick.drop))))⟩

theorem syncF_spec (r : FRow) (hl : r.b.length ≤ 1099511627776) (hs : Sat w0 w (fBlk r :: fOwn r :: M)) :
    Calls Try.prog 29 #[.pointer (some ⟨r.ad, 0, none⟩)] w (fun e w' => e = .returned (.tuple #[]) ∧ ∃ r' : FRow, r'.ad = r.ad ∧ (r'.b, r'.sy) = (r.b, r.b.length) ∧ Sat w0 w' (fBlk r' :: fOwn r' :: M)) := by
  obtain ⟨ad, A, cap, fb, sy⟩ := r
  simp only at hl hs ⊢
  have hfin := hidI (fun (w : World) (hs : Sat w0 w (blk ad (.cells #[.slice A fb.length cap, .int .i64 (fb.length : Int)] 60 (0, 0)) :: own 5 1 A cap fb.length (B8 fb) :: M)) =>
    show ∃ r' : FRow, r'.ad = ad ∧ (r'.b, r'.sy) = (fb, fb.length) ∧ Sat w0 w (fBlk r' :: fOwn r' :: M) from ⟨⟨ad, A, cap, fb, fb.length⟩, rfl, rfl, hs⟩)
  replace hs : Sat w0 w (blk ad (.cells #[.slice A fb.length cap, .int .i64 (sy : Int)] 60 (0, 0)) :: own 5 1 A cap fb.length (B8 fb) :: M) := hs
  obtain ⟨k, hk⟩ : ∃ k, fb.length = k := ⟨_, rfl⟩
  rw [hk] at hs hfin hl ⊢
  clear hk
  go_enter Try.func29, Try.ntmps29
  refine wk_reg ?_; (iterate 8 (refine pl_take (v := ?_) rfl ?_ ?_; rotate_left; (· (first | ((with_reducible apply yl_load); assumption; rfl; (repeat (first | with_reducible assumption | ((with_reducible apply Cl.own); exact rfl) | ((with_reducible apply Cl.blkL); exact rfl) | with_reducible apply Cl.cons)); rfl) | (go_simp; first | done | with_reducible rfl | rfl | omega | assumption | (simp; omega)))); (try simp only [Act.put, aP, aZ, aS]))); refine pl_eff rfl (fun Kp hKp => ?_); (first | ((with_reducible apply st_store1); assumption; rfl; (go_simp; rfl); (repeat (first | with_reducible exact Out.here _ | apply Out.there)); rfl; rfl; simp; intro wr0_8 hsr0_8; (try simp only [aP] at hsr0_8); (try simp only [aS] at hsr0_8); (try simp only [aZ] at hsr0_8)) | ((with_reducible apply st_store_own); assumption; rfl; (go_simp; rfl); (repeat (first | with_reducible exact Out.here _ | apply Out.there)); rfl; rfl; omega; intro wr0_8 hsr0_8)); refine hKp.out _ _ ?_; clear hKp Kp; (try dsimp only [Act.put]); refine pl_done ?_
  -- the end
  go_end0
  exact ⟨rfl, hfin.out _ ((by assumption : Sat w0 _ _).pick (by (repeat (first | exact Pick.nil _ | exact Pick.tail _ | exact Out.here _ | apply Out.there | apply Pick.cons | apply Pick.drop))))⟩

theorem append_spec {B : Option Addr} {m c : Nat} (n : Nm) (l : List UInt8) (hm : m = l.length) (hl : m ≤ 1099511627776) (hok : D.Ok) (hn : n.length ≤ 1099511627776) (hR : Rd w0 L B m 1 (B8 l)) (hs : Sat w0 w (DK p D :: L)) :
    Calls Try.prog 11 #[.pointer (some ⟨p, 0, none⟩), sV n, .slice B m c] w (fun e w' => e = .returned (.int .i64 (D.append n l).1) ∧ Sat w0 w' (DK p (D.append n l).2 :: L)) := by
  unfold VD.append
  have hw := fun (w : World) (b : Nat) (hs : Sat w0 w (DK p D :: blk b (.cells #[.slice B m c] 22 (0, 0)) :: L)) =>
    with_spec (D := D) n (m : Int) (fun x => (x.1 ++ l, x.2)) 28 #[.pointer (some ⟨b, 0, none⟩)] hok hn (fun _ _ => rfl) (fun r w M hM hr hs => by
      obtain ⟨f, _, hr2, _⟩ := hr
      have h1 := (hok.fs _ (List.mem_of_getElem? hr2)).2
      exact appendF_spec r l hm (by simp only at h1; omega) (fun w hs => (Cl.blk rfl) w (hM w hs)) (fun w hs => hR w (hM w hs).tail) hs) hs
  have e : (l.length : Int) = (m : Int) := by rw [hm]
  rw [e]
  obtain ⟨R, hRe⟩ : ∃ R, D.with n (m : Int) (fun x => (x.1 ++ l, x.2)) = R := ⟨_, rfl⟩
  rw [hRe] at hw ⊢
  clear hRe e hm hR
  go_enter Try.func11, Try.ntmps11
  refine wk_seq (fun K0 hK0 => ?_); refine wk_reg ?_; refine pl_eff rfl (fun Kp hKp => ?_); ((with_reducible apply st_box); assumption; (go_simp; rfl); intro b5 w5 hs5; simp only [Value.cells] at hs5); refine hKp.out _ _ ?_; clear hKp Kp; (try simp only [Act.put, aP, aZ, aS]); refine pl_take (v := ?_) rfl ?_ ?_; rotate_left; (· (go_simp; first | done | with_reducible rfl | rfl | omega | assumption | (simp; omega))); (try simp only [Act.put, aP, aZ, aS]); refine pl_done ?_; refine hK0.out _ _ ?_; (try clear hK0 K0); refine wk_seq (fun K1 hK1 => ?_); refine wk_reg ?_; (iterate 5 (refine pl_take (v := ?_) rfl ?_ ?_; rotate_left; (· (first | ((with_reducible apply yl_load); assumption; rfl; (repeat (first | with_reducible assumption | ((with_reducible apply Cl.own); exact rfl) | ((with_reducible apply Cl.blkL); exact rfl) | with_reducible apply Cl.cons)); rfl) | (go_simp; first | done | with_reducible rfl | rfl | omega | assumption | (simp; omega)))); (try simp only [Act.put, aP, aZ, aS]))); refine pl_eff rfl (fun Kp hKp => ?_); go_simp; (refine (hw _ b5 ((by assumption : Sat w0 _ _).pick (by (repeat (first | exact Pick.nil _ | exact Pick.tail _ | exact Out.here _ | apply Out.there | apply Pick.cons | apply Pick.drop))))).mono ?_; rintro e12 w12 ⟨rfl, hs12⟩); (try go_wp2_with fail); refine hKp.out _ _ ?_; clear hKp Kp; (try simp only [Act.put, aP, aZ, aS]); refine pl_take (v := ?_) rfl ?_ ?_; rotate_left; (· (go_simp; first | done | with_reducible rfl | rfl | omega | assumption | (simp; omega))); (try simp only [Act.put, aP, aZ, aS]); refine pl_done ?_; refine hK1.out _ _ ?_; (try clear hK1 K1); refine wp_ret ?_
  go_ret
  exact ⟨rfl, (by assumption : Sat w0 _ _).pick (by (repeat (first | exact Pick.nil _ | exact Pick.tail _ | exact Out.here _ | apply Out.there | apply Pick.cons | apply Pick.drop)))⟩

theorem sync_spec (n : Nm) (hok : D.Ok) (hn : n.length ≤ 1099511627776) (hs : Sat w0 w (DK p D :: L)) :
    Calls Try.prog 12 #[.pointer (some ⟨p, 0, none⟩), sV n] w (fun e w' => e = .returned (.int .i64 (D.sync n).1) ∧ Sat w0 w' (DK p (D.sync n).2 :: L)) := by
  unfold VD.sync
  have hw := fun (w : World) (hs : Sat w0 w (DK p D :: L)) =>
    with_spec (D := D) n 0 (fun x => (x.1, x.1.length)) 29 #[] hok hn (fun _ _ => rfl) (fun r w M hM hr hs => by
      obtain ⟨f, _, hr2, _⟩ := hr
      have h1 := (hok.fs _ (List.mem_of_getElem? hr2)).2
      exact syncF_spec r (by simp only at h1; omega) hs) hs
  obtain ⟨R, hRe⟩ : ∃ R, D.with n 0 (fun x => (x.1, x.1.length)) = R := ⟨_, rfl⟩
  rw [hRe] at hw ⊢
  clear hRe
  go_enter Try.func12, Try.ntmps12
  refine wk_seq (fun K0 hK0 => ?_); refine wk_reg ?_; refine pl_take (v := ?_) rfl ?_ ?_; rotate_left; (· (go_simp; first | done | with_reducible rfl | rfl | omega | assumption | (simp; omega))); (try simp only [Act.put, aP, aZ, aS]); refine pl_done ?_; refine hK0.out _ _ ?_; (try clear hK0 K0); refine wk_seq (fun K1 hK1 => ?_); refine wk_reg ?_; (iterate 2 (refine pl_take (v := ?_) rfl ?_ ?_; rotate_left; (· (go_simp; first | done | with_reducible rfl | rfl | omega | assumption | (simp; omega))); (try simp only [Act.put, aP, aZ, aS]))); refine pl_eff rfl (fun Kp hKp => ?_); go_simp; (refine (hw _ (by assumption)).mono ?_; rintro e7 w7 ⟨rfl, hs7⟩); (try go_wp2_with fail); refine hKp.out _ _ ?_; clear hKp Kp; (try simp only [Act.put, aP, aZ, aS]); refine pl_take (v := ?_) rfl ?_ ?_; rotate_left; (· (go_simp; first | done | with_reducible rfl | rfl | omega | assumption | (simp; omega))); (try simp only [Act.put, aP, aZ, aS]); refine pl_done ?_; refine hK1.out _ _ ?_; (try clear hK1 K1); refine wp_ret ?_
  go_ret
  exact ⟨rfl, (by assumption : Sat w0 _ _).pick (by (repeat (first | exact Pick.nil _ | exact Pick.tail _ | exact Out.here _ | apply Out.there | apply Pick.cons | apply Pick.drop)))⟩

/-- What a Read returns. -/
def RetRd (w0 : World) (L : List HP) (x : List UInt8 × Int) (e : Ending) (w' : World) : Prop := ∃ A c, e = .returned (.tuple #[.slice A x.1.length c, .int .i64 x.2]) ∧ Sat w0 w' (own 5 1 A c x.1.length (B8 x.1) :: L)

theorem read_spec (n : Nm) (hok : D.Ok) (hn : n.length ≤ 1099511627776) (hs : Sat w0 w (DK p D :: L)) :
    Calls Try.prog 15 #[.pointer (some ⟨p, 0, none⟩), sV n] w (RetRd w0 (DK p D :: L) (D.read n)) := by
  obtain ⟨bn, bs, X, cx, cs, rs, h1, h2, h3, hs1⟩ := DK.opened hs
  clear hs
  have hmay := fun (w : World) (M : List HP) (A : Option Addr) (c : Nat) (hs : Sat w0 w M) (hc : Cl w0 M ⟨p, 3, none⟩ (.map (some bn))) (hR : Rd w0 M A 1 1 [sV n]) => may_spec (c := c) (n := 1) [n] rfl (by omega) (by simpa using hn) hs hc hR
  simp only [List.all_cons, List.all_nil, Bool.and_true] at hmay
  have hget := dirV_get (adr rs) D.now n
  have hback := hidI (fun (w : World) (L : List HP) hs => DK.made (w := w) (w0 := w0) (L := L) (p := p) (bn := bn) (bs := bs) (X := X) (cx := cx) h1 h2 h3 hs)
  unfold VD.read
  by_cases c1 : nmOk n = false
  · rw [if_pos c1]
    rw [c1] at hmay
    clear h1 h2 h3 hget c1
    go_enter Try.func15, Try.ntmps15
    refine wk_seq (fun K0 hK0 => ?_); refine wk_reg ?_; (iterate 2 (refine pl_take (v := ?_) rfl ?_ ?_; rotate_left; (· (go_simp; first | done | with_reducible rfl | rfl | omega | assumption | (simp; omega))); (try simp only [Act.put, aP, aZ, aS]))); refine pl_done ?_; refine hK0.out _ _ ?_; (try clear hK0 K0); refine wk_seq (fun K1 hK1 => ?_); refine wp_block ?_; refine wk_seq (fun K2 hK2 => ?_); refine wk_reg ?_; (iterate 2 (refine pl_take (v := ?_) rfl ?_ ?_; rotate_left; (· (go_simp; first | done | with_reducible rfl | rfl | omega | assumption | (simp; omega))); (try simp only [Act.put, aP, aZ, aS]))); refine pl_eff rfl (fun Kp hKp => ?_); ((with_reducible apply st_buildSlice); assumption; rfl; (go_simp; rfl); (simp [sV_cells]); omega; intro b9 w9 hs9); refine hKp.out _ _ ?_; clear hKp Kp; (try simp only [Act.put, aP, aZ, aS]); refine pl_eff rfl (fun Kp hKp => ?_); go_simp; (refine (hmay _ _ _ _ (by assumption) (by (repeat (first | with_reducible assumption | ((with_reducible apply Cl.own); exact rfl) | ((with_reducible apply Cl.blkL); exact rfl) | with_reducible apply Cl.cons))) own_one).mono ?_; rintro e10 w10 ⟨rfl, hs10⟩); (try go_wp2_with fail); refine hKp.out _ _ ?_; clear hKp Kp; (try simp only [Act.put, aP, aZ, aS]); refine pl_take (v := ?_) rfl ?_ ?_; rotate_left; (· (go_simp; first | done | with_reducible rfl | rfl | omega | assumption | (simp; omega))); (try simp only [Act.put, aP, aZ, aS]); refine pl_take (v := .bool true) rfl ?_ ?_; (· (go_simp; first | done | with_reducible rfl | rfl | omega | assumption | (simp; omega))); (try simp only [Act.put, aP, aZ, aS]); refine pl_done ?_; refine hK2.out _ _ ?_; (try clear hK2 K2); refine wp_cond_true rfl ?_; refine wk_seq (fun K3 hK3 => ?_); refine wk_reg ?_; (iterate 2 (refine pl_take (v := ?_) rfl ?_ ?_; rotate_left; (· (go_simp; first | done | with_reducible rfl | rfl | omega | assumption | (simp; omega))); (try simp only [Act.put, aP, aZ, aS]))); refine pl_done ?_; refine hK3.out _ _ ?_; (try clear hK3 K3); refine wp_ret ?_
    go_ret2
    exact ⟨none, 0, rfl, ((hback.out _ L ((by assumption : Sat w0 _ _).pick (by (repeat (first | exact Pick.nil _ | exact Pick.tail _ | exact Out.here _ | apply Out.there | apply Pick.cons | apply Pick.drop))))).own_nil 5 1)⟩
  · rw [if_neg c1]
    have c1' : nmOk n = true := by simpa using c1
    rw [c1'] at hmay
    have hn64 : okS n := nmOk_len c1'
    cases c2 : dget D.now n with
    | none =>
      rw [c2] at hget
      simp only [Option.map_none] at hget ⊢
      clear h1 h2 h3 c1 c1' c2
      go_enter Try.func15, Try.ntmps15
      refine wk_seq (fun K0 hK0 => ?_); refine wk_reg ?_; (iterate 2 (refine pl_take (v := ?_) rfl ?_ ?_; rotate_left; (· (go_simp; first | done | with_reducible rfl | rfl | omega | assumption | (simp; omega))); (try simp only [Act.put, aP, aZ, aS]))); refine pl_done ?_; refine hK0.out _ _ ?_; (try clear hK0 K0); refine wk_seq (fun K1 hK1 => ?_); refine wp_block ?_; refine wk_seq (fun K2 hK2 => ?_); refine wk_reg ?_; (iterate 2 (refine pl_take (v := ?_) rfl ?_ ?_; rotate_left; (· (go_simp; first | done | with_reducible rfl | rfl | omega | assumption | (simp; omega))); (try simp only [Act.put, aP, aZ, aS]))); refine pl_eff rfl (fun Kp hKp => ?_); ((with_reducible apply st_buildSlice); assumption; rfl; (go_simp; rfl); (simp [sV_cells]); omega; intro b9 w9 hs9); refine hKp.out _ _ ?_; clear hKp Kp; (try simp only [Act.put, aP, aZ, aS]); refine pl_eff rfl (fun Kp hKp => ?_); go_simp; (refine (hmay _ _ _ _ (by assumption) (by (repeat (first | with_reducible assumption | ((with_reducible apply Cl.own); exact rfl) | ((with_reducible apply Cl.blkL); exact rfl) | with_reducible apply Cl.cons))) own_one).mono ?_; rintro e10 w10 ⟨rfl, hs10⟩); (try go_wp2_with fail); refine hKp.out _ _ ?_; clear hKp Kp; (try simp only [Act.put, aP, aZ, aS]); refine pl_take (v := ?_) rfl ?_ ?_; rotate_left; (· (go_simp; first | done | with_reducible rfl | rfl | omega | assumption | (simp; omega))); (try simp only [Act.put, aP, aZ, aS]); refine pl_take (v := .bool false) rfl ?_ ?_; (· (go_simp; first | done | with_reducible rfl | rfl | omega | assumption | (simp; omega))); (try simp only [Act.put, aP, aZ, aS]); refine pl_done ?_; refine hK2.out _ _ ?_; (try clear hK2 K2); refine wp_cond_false rfl ?_; refine wk_seq (fun K4 hK4 => ?_); refine wk_reg ?_; (iterate 5 (refine pl_take (v := ?_) rfl ?_ ?_; rotate_left; (· (first | ((with_reducible apply yl_load); assumption; rfl; (repeat (first | with_reducible assumption | ((with_reducible apply Cl.own); exact rfl) | ((with_reducible apply Cl.blkL); exact rfl) | with_reducible apply Cl.cons)); rfl) | (go_simp; first | done | with_reducible rfl | rfl | omega | assumption | (simp; omega)))); (try simp only [Act.put, aP, aZ, aS]))); refine pl_take (v := (.pointer none)) rfl ?_ ?_; (· ((with_reducible apply yl_lookupV (xk := n) ktS); assumption; rfl; rfl; (repeat (first | with_reducible exact Out.here _ | apply Out.there)); exact hn64; (simp [hget]))); (try simp only [Act.put, aP, aZ, aS]); refine pl_take (v := ?_) rfl ?_ ?_; rotate_left; (· (go_simp; first | done | with_reducible rfl | rfl | omega | assumption | (simp; omega))); (try simp only [Act.put, aP, aZ, aS]); refine pl_take (v := .bool true) rfl ?_ ?_; (· (go_simp; first | done | with_reducible rfl | rfl | omega | assumption | (simp; omega))); (try simp only [Act.put, aP, aZ, aS]); refine pl_done ?_; refine hK4.out _ _ ?_; (try clear hK4 K4); refine wp_cond_true rfl ?_; refine wk_seq (fun K5 hK5 => ?_); refine wk_reg ?_; (iterate 2 (refine pl_take (v := ?_) rfl ?_ ?_; rotate_left; (· (go_simp; first | done | with_reducible rfl | rfl | omega | assumption | (simp; omega))); (try simp only [Act.put, aP, aZ, aS]))); refine pl_done ?_; refine hK5.out _ _ ?_; (try clear hK5 K5); refine wp_ret ?_
      go_ret2
      exact ⟨none, 0, rfl, ((hback.out _ L ((by assumption : Sat w0 _ _).pick (by (repeat (first | exact Pick.nil _ | exact Pick.tail _ | exact Out.here _ | apply Out.there | apply Pick.cons | apply Pick.drop))))).own_nil 5 1)⟩
    | some f =>
      obtain ⟨r, hr, hrf, hget⟩ := dget_rs hok h2 c2
      simp only [hrf, Option.map_some, Option.getD_some]
      have hfl := (hok.fs _ (List.mem_of_getElem? hrf)).2
      have hf0 : Cl w0 (SatH (rs.map FRow.hp) :: L) ⟨r.ad, 0, none⟩ (.slice r.A r.b.length r.cap) := file_cl0 hr
      have hf1 : Rd w0 (SatH (rs.map FRow.hp) :: L) r.A r.b.length 1 (B8 r.b) := file_rd hr
      have hcl := fun (w : World) (M : List HP) (hs : Sat w0 w M) (hR : Rd w0 M r.A r.b.length 1 (B8 r.b)) => cloneB_spec (c := r.cap) (B8 r.b) (by simp only at hfl; omega) (B8_one _) hs hR
      obtain ⟨m, hm⟩ : ∃ m, r.b.length = m := ⟨_, rfl⟩
      obtain ⟨vs, hvs⟩ : ∃ vs, B8 r.b = vs := ⟨_, rfl⟩
      have hret : ∀ (w : World) (A : Option Addr) (c : Nat), Sat w0 w (own 5 1 A c m vs :: DK p D :: L) → RetRd w0 (DK p D :: L) (r.b, 0) (.returned (.tuple #[.slice A m c, .int .i64 0])) w := fun w A c hs => ⟨A, c, by rw [← hm], by show Sat w0 w (own 5 1 A c r.b.length (B8 r.b) :: _); rw [hm, hvs]; exact hs⟩
      have Hret := hidI hret
      rw [hm] at hf0 hf1 hcl
      rw [hvs] at hf1 hcl
      clear h1 h2 h3 c1 c1' c2 hrf hr hm hvs hret
      go_enter Try.func15, Try.ntmps15
      refine wk_seq (fun K0 hK0 => ?_); refine wk_reg ?_; (iterate 2 (refine pl_take (v := ?_) rfl ?_ ?_; rotate_left; (· (go_simp; first | done | with_reducible rfl | rfl | omega | assumption | (simp; omega))); (try simp only [Act.put, aP, aZ, aS]))); refine pl_done ?_; refine hK0.out _ _ ?_; (try clear hK0 K0); refine wk_seq (fun K1 hK1 => ?_); refine wp_block ?_; refine wk_seq (fun K2 hK2 => ?_); refine wk_reg ?_; (iterate 2 (refine pl_take (v := ?_) rfl ?_ ?_; rotate_left; (· (go_simp; first | done | with_reducible rfl | rfl | omega | assumption | (simp; omega))); (try simp only [Act.put, aP, aZ, aS]))); refine pl_eff rfl (fun Kp hKp => ?_); ((with_reducible apply st_buildSlice); assumption; rfl; (go_simp; rfl); (simp [sV_cells]); omega; intro b9 w9 hs9); refine hKp.out _ _ ?_; clear hKp Kp; (try simp only [Act.put, aP, aZ, aS]); refine pl_eff rfl (fun Kp hKp => ?_); go_simp; (refine (hmay _ _ _ _ (by assumption) (by (repeat (first | with_reducible assumption | ((with_reducible apply Cl.own); exact rfl) | ((with_reducible apply Cl.blkL); exact rfl) | with_reducible apply Cl.cons))) own_one).mono ?_; rintro e10 w10 ⟨rfl, hs10⟩); (try go_wp2_with fail); refine hKp.out _ _ ?_; clear hKp Kp; (try simp only [Act.put, aP, aZ, aS]); refine pl_take (v := ?_) rfl ?_ ?_; rotate_left; (· (go_simp; first | done | with_reducible rfl | rfl | omega | assumption | (simp; omega))); (try simp only [Act.put, aP, aZ, aS]); refine pl_take (v := .bool false) rfl ?_ ?_; (· (go_simp; first | done | with_reducible rfl | rfl | omega | assumption | (simp; omega))); (try simp only [Act.put, aP, aZ, aS]); refine pl_done ?_; refine hK2.out _ _ ?_; (try clear hK2 K2); refine wp_cond_false rfl ?_; refine wk_seq (fun K4 hK4 => ?_); refine wk_reg ?_; (iterate 5 (refine pl_take (v := ?_) rfl ?_ ?_; rotate_left; (· (first | ((with_reducible apply yl_load); assumption; rfl; (repeat (first | with_reducible assumption | ((with_reducible apply Cl.own); exact rfl) | ((with_reducible apply Cl.blkL); exact rfl) | with_reducible apply Cl.cons)); rfl) | (go_simp; first | done | with_reducible rfl | rfl | omega | assumption | (simp; omega)))); (try simp only [Act.put, aP, aZ, aS]))); refine pl_take (v := (.pointer (some ⟨r.ad, 0, none⟩))) rfl ?_ ?_; (· ((with_reducible apply yl_lookupV (xk := n) ktS); assumption; rfl; rfl; (repeat (first | with_reducible exact Out.here _ | apply Out.there)); exact hn64; (simp [hget, pV]))); (try simp only [Act.put, aP, aZ, aS]); refine pl_take (v := ?_) rfl ?_ ?_; rotate_left; (· (go_simp; first | done | with_reducible rfl | rfl | omega | assumption | (simp; omega))); (try simp only [Act.put, aP, aZ, aS]); refine pl_take (v := .bool false) rfl ?_ ?_; (· (go_simp; first | done | with_reducible rfl | rfl | omega | assumption | (simp; omega))); (try simp only [Act.put, aP, aZ, aS]); refine pl_done ?_; refine hK4.out _ _ ?_; (try clear hK4 K4); refine wp_cond_false rfl ?_; refine wp_skip ?_; refine hK1.out _ _ ?_; (try clear hK1 K1); refine wk_seq (fun K6 hK6 => ?_); refine wk_reg ?_; (iterate 5 (refine pl_take (v := ?_) rfl ?_ ?_; rotate_left; (· (first | ((with_reducible apply yl_load); assumption; rfl; (repeat (first | with_reducible assumption | ((with_reducible apply Cl.own); exact rfl) | ((with_reducible apply Cl.blkL); exact rfl) | with_reducible apply Cl.cons)); rfl) | (go_simp; first | done | with_reducible rfl | rfl | omega | assumption | (simp; omega)))); (try simp only [Act.put, aP, aZ, aS]))); refine pl_take (v := (.pointer (some ⟨r.ad, 0, none⟩))) rfl ?_ ?_; (· ((with_reducible apply yl_lookupV (xk := n) ktS); assumption; rfl; rfl; (repeat (first | with_reducible exact Out.here _ | apply Out.there)); exact hn64; (simp [hget, pV]))); (try simp only [Act.put, aP, aZ, aS]); (iterate 3 (refine pl_take (v := ?_) rfl ?_ ?_; rotate_left; (· (first | ((with_reducible apply yl_load); assumption; rfl; (repeat (first | with_reducible assumption | ((with_reducible apply Cl.own); exact rfl) | ((with_reducible apply Cl.blkL); exact rfl) | with_reducible apply Cl.cons)); rfl) | (go_simp; first | done | with_reducible rfl | rfl | omega | assumption | (simp; omega)))); (try simp only [Act.put, aP, aZ, aS]))); refine pl_eff rfl (fun Kp hKp => ?_); go_simp; (refine (hcl _ _ (by assumption) (by (repeat (first | with_reducible assumption | with_reducible exact Rd.own | with_reducible exact Rd.nil | with_reducible apply Rd.cons)))).mono ?_; rintro e29 w29 ⟨A29, c29, rfl, hs29⟩); (try go_wp2_with fail); refine hKp.out _ _ ?_; clear hKp Kp; (try simp only [Act.put, aP, aZ, aS]); (iterate 2 (refine pl_take (v := ?_) rfl ?_ ?_; rotate_left; (· (go_simp; first | done | with_reducible rfl | rfl | omega | assumption | (simp; omega))); (try simp only [Act.put, aP, aZ, aS]))); refine pl_done ?_; refine hK6.out _ _ ?_; (try clear hK6 K6); refine wp_ret ?_
      go_ret2
      exact Hret.out _ _ _ ((hback.out _ (own _ 1 _ _ _ _ :: L) ((by assumption : Sat w0 _ (own _ 1 A29 c29 _ _ :: _)).pick (by (repeat (first | exact Pick.nil _ | exact Pick.tail _ | exact Out.here _ | apply Out.there | apply Pick.cons | apply Pick.drop))))).swap)

theorem cut_spec (n : Int) (hs : Sat w0 w (DK p D :: L)) :
    Calls Try.prog 17 #[.pointer (some ⟨p, 0, none⟩), .int .i64 n] w (fun e w' => e = .returned (.tuple #[]) ∧ Sat w0 w' (DK p (D.cut n) :: L)) := by
  obtain ⟨bn, bs, X, cx, cs, rs, h1, h2, h3, hs1⟩ := DK.opened hs
  clear hs
  have hmay := fun (w : World) (M : List HP) (hs : Sat w0 w M) (hc : Cl w0 M ⟨p, 3, none⟩ (.map (some bn))) => may_no hs hc
  have hback := hidI (fun (w : World) hs => DK.made (D := D.cut n) (w := w) (w0 := w0) (L := L) (p := p) (bn := bn) (bs := bs) (X := X) (cx := cx) h1 h2 h3 hs)
  unfold VD.cut at hback ⊢
  simp only at hback
  clear h1 h2 h3
  go_enter Try.func17, Try.ntmps17
  refine wk_seq (fun K0 hK0 => ?_); refine wk_reg ?_; refine pl_take (v := ?_) rfl ?_ ?_; rotate_left; (· (go_simp; first | done | with_reducible rfl | rfl | omega | assumption | (simp; omega))); (try simp only [Act.put, aP, aZ, aS]); refine pl_eff rfl (fun Kp hKp => ?_); go_simp; (refine (hmay _ _ (by assumption) (by (repeat (first | with_reducible assumption | ((with_reducible apply Cl.own); exact rfl) | ((with_reducible apply Cl.blkL); exact rfl) | with_reducible apply Cl.cons)))).mono ?_; rintro e5 w5 ⟨rfl, hs5⟩); (try go_wp2_with fail); refine hKp.out _ _ ?_; clear hKp Kp; (try simp only [Act.put, aP, aZ, aS]); refine pl_done ?_; refine hK0.out _ _ ?_; (try clear hK0 K0); refine wp_cond_true rfl ?_; refine wk_reg ?_; (iterate 6 (refine pl_take (v := ?_) rfl ?_ ?_; rotate_left; (· (go_simp; first | done | with_reducible rfl | rfl | omega | assumption | (simp; omega))); (try simp only [Act.put, aP, aZ, aS]))); refine pl_eff rfl (fun Kp hKp => ?_); (first | ((with_reducible apply st_store1); assumption; rfl; (go_simp; rfl); (repeat (first | with_reducible exact Out.here _ | apply Out.there)); rfl; rfl; simp; intro wr1_6 hsr1_6; (try simp only [aP] at hsr1_6); (try simp only [aS] at hsr1_6); (try simp only [aZ] at hsr1_6)) | ((with_reducible apply st_store_own); assumption; rfl; (go_simp; rfl); (repeat (first | with_reducible exact Out.here _ | apply Out.there)); rfl; rfl; omega; intro wr1_6 hsr1_6)); refine hKp.out _ _ ?_; clear hKp Kp; (try dsimp only [Act.put]); refine pl_done ?_
  -- the end
  go_end0
  exact ⟨rfl, hback.out _ ((by assumption : Sat w0 _ _).pick (by (repeat (first | exact Pick.nil _ | exact Pick.tail _ | exact Out.here _ | apply Out.there | apply Pick.cons | apply Pick.drop))))⟩

theorem down_spec (hs : Sat w0 w (DK p D :: L)) :
    Calls Try.prog 22 #[.pointer (some ⟨p, 0, none⟩)] w (fun e w' => e = .returned (.bool D.off) ∧ Sat w0 w' (DK p D :: L)) := by
  obtain ⟨bn, bs, X, cx, cs, rs, h1, h2, h3, hs1⟩ := DK.opened hs
  clear hs
  have hmay := fun (w : World) (M : List HP) (hs : Sat w0 w M) (hc : Cl w0 M ⟨p, 3, none⟩ (.map (some bn))) => may_no hs hc
  have hback := hidI (fun (w : World) hs => DK.made (D := D) (w := w) (w0 := w0) (L := L) (p := p) (bn := bn) (bs := bs) (X := X) (cx := cx) h1 h2 h3 hs)
  clear h1 h2 h3
  go_enter Try.func22, Try.ntmps22
  refine wk_seq (fun K0 hK0 => ?_); refine wk_reg ?_; refine pl_take (v := .bool false) rfl ?_ ?_; (· (go_simp; first | done | with_reducible rfl | rfl | omega | assumption | (simp; omega))); (try simp only [Act.put, aP, aZ, aS]); refine pl_done ?_; refine hK0.out _ _ ?_; (try clear hK0 K0); refine wk_seq (fun K1 hK1 => ?_); refine wk_reg ?_; refine pl_take (v := ?_) rfl ?_ ?_; rotate_left; (· (go_simp; first | done | with_reducible rfl | rfl | omega | assumption | (simp; omega))); (try simp only [Act.put, aP, aZ, aS]); refine pl_eff rfl (fun Kp hKp => ?_); go_simp; (refine (hmay _ _ (by assumption) (by (repeat (first | with_reducible assumption | ((with_reducible apply Cl.own); exact rfl) | ((with_reducible apply Cl.blkL); exact rfl) | with_reducible apply Cl.cons)))).mono ?_; rintro e4 w4 ⟨rfl, hs4⟩); (try go_wp2_with fail); refine hKp.out _ _ ?_; clear hKp Kp; (try simp only [Act.put, aP, aZ, aS]); refine pl_take (v := .bool true) rfl ?_ ?_; (· (go_simp; first | done | with_reducible rfl | rfl | omega | assumption | (simp; omega))); (try simp only [Act.put, aP, aZ, aS]); (iterate 5 (refine pl_take (v := ?_) (by kernel_rfl) ?_ ?_; rotate_left; (· (first | ((with_reducible apply yl_load); assumption; rfl; (repeat (first | with_reducible assumption | ((with_reducible apply Cl.own); exact rfl) | ((with_reducible apply Cl.blkL); exact rfl) | with_reducible apply Cl.cons)); rfl) | (go_simp; first | done | with_reducible rfl | rfl | omega | assumption | (simp; omega)))); (try simp only [Act.put, aP, aZ, aS]))); (iterate 2 (refine pl_take (v := ?_) rfl ?_ ?_; rotate_left; (· (go_simp; first | done | with_reducible rfl | rfl | omega | assumption | (simp; omega))); (try simp only [Act.put, aP, aZ, aS]))); refine pl_done ?_; refine hK1.out _ _ ?_; (try clear hK1 K1); refine wp_ret ?_
  go_ret
  exact ⟨rfl, hback.out _ ((by assumption : Sat w0 _ _).pick (by (repeat (first | exact Pick.nil _ | exact Pick.tail _ | exact Out.here _ | apply Out.there | apply Pick.cons | apply Pick.drop))))⟩
end
end Go.Proofs.Ytiofgdgmlnhekaa
