/-
  A machine's save, plainly: sessions in order; what a good machine is; Save of the program.
-/
import Derived.Test.YtdlimjcidblneaaSs5
import Derived.Test.YtdlimjcidblneaaMr1
namespace Go.Proofs.Ytdlimjcidblneaa
open Go Go.RowKit Sl Go.Shelf
set_option maxHeartbeats 20000000
set_option maxRecDepth 8000

def leK (x y : Int × Se) : Bool := decide (x.1 ≤ y.1)
def seSort (ss : List (Int × Se)) : List (Int × Se) := ss.mergeSort leK
def seNum (x : Int × Se) : List Int := [x.1, x.2.q, x.2.n, x.2.t]
def txt (d : List UInt8) : List UInt8 := num d.length ++ d
def Mc.head (M : Mc) : List UInt8 := nms [M.ap, M.st, M.st + M.l.length, M.ss.length]
def sesB (ss : List (Int × Se)) : List UInt8 := (ss.map fun x => nms (seNum x)).flatten
def recB (l : List (List UInt8)) : List UInt8 := (l.map txt).flatten
def Mc.save (M : Mc) : List UInt8 := M.head ++ sesB (seSort M.ss) ++ recB M.l

structure Mc.Good (M : Mc) : Prop where
  ok : M.Ok
  big : ∀ d ∈ M.l, d.length ≤ 1024
  se : ∀ x ∈ M.ss, 0 ≤ x.2.q ∧ x.2.q < 1099511627776 ∧ 0 ≤ x.2.n ∧ (x.2.n < M.st + M.l.length ∨ x.2.n = 0) ∧ x.1 ≤ x.2.t ∧ x.2.t ≤ M.ap
  nod : (M.ss.map (·.1)).Nodup
  few : M.ss.length ≤ 16

theorem seSort_perm (ss : List (Int × Se)) : (seSort ss).Perm ss := List.mergeSort_perm ss leK

theorem leInt_sorted (l : List Int) : (l.mergeSort (fun x y => decide (x ≤ y))).Pairwise (· ≤ ·) := by
  have h := List.pairwise_mergeSort (le := fun x y : Int => decide (x ≤ y)) (fun a b c h1 h2 => by simp only [decide_eq_true_eq] at *; omega) (fun a b => by simp only [Bool.or_eq_true, decide_eq_true_eq]; omega) l
  exact h.imp (by simp)

theorem seSort_sorted (ss : List (Int × Se)) : ((seSort ss).map (·.1)).Pairwise (· ≤ ·) := by
  have h := List.pairwise_mergeSort (le := leK) (fun a b c h1 h2 => by simp only [leK, decide_eq_true_eq] at *; omega) (fun a b => by simp only [leK, Bool.or_eq_true, decide_eq_true_eq]; omega) ss
  exact List.Pairwise.map _ (fun a b h => by simpa [leK] using h) h

/-- Sorted lists of the same numbers are one. -/
theorem sorted_eq : ∀ {l k : List Int}, l.Perm k → l.Pairwise (· ≤ ·) → k.Pairwise (· ≤ ·) → l = k
  | [], k, hp, _, _ => hp.nil_eq
  | x :: l, k, hp, hl, hk => by
    cases k with
    | nil => exact absurd hp (by simp)
    | cons y k =>
      have h1 : x ≤ y := by
        have : y ∈ x :: l := hp.symm.subset (by simp)
        rcases List.mem_cons.1 this with e | e
        · omega
        · exact List.rel_of_pairwise_cons hl e
      have h2 : y ≤ x := by
        have : x ∈ y :: k := hp.subset (by simp)
        rcases List.mem_cons.1 this with e | e
        · omega
        · exact List.rel_of_pairwise_cons hk e
      obtain rfl : x = y := by omega
      rw [sorted_eq (List.Perm.cons_inv hp) hl.of_cons hk.of_cons]

theorem keys_sorted {ss : List (Int × Se)} {ks : List Int} (h : ks.Perm (ss.map (·.1))) : ks.mergeSort (fun x y => decide (x ≤ y)) = (seSort ss).map (·.1) :=
  sorted_eq ((List.mergeSort_perm _ _).trans (h.trans ((seSort_perm ss).map (·.1)).symm)) (leInt_sorted ks) (seSort_sorted ss)

theorem Cl.se' {w0 : World} {L : List HP} {bs : List SesRow} {k : Int} {b : Nat} {s : Se} (h : (k, b, s) ∈ bs) :
    Cl w0 (SatH (seBlks bs) :: L) ⟨b, 0, none⟩ (.int .i64 s.q) ∧ Cl w0 (SatH (seBlks bs) :: L) ⟨b, 1, none⟩ (.int .i64 s.n) ∧ Cl w0 (SatH (seBlks bs) :: L) ⟨b, 2, none⟩ (.int .i64 s.t) := by
  obtain ⟨j, hj⟩ := List.mem_iff_getElem?.1 h
  have hj' : (seBlks bs)[j]? = some (blk b (.cells #[.int .i64 s.q, .int .i64 s.n, .int .i64 s.t] 81 (0, 0))) := by unfold seBlks; rw [List.getElem?_map, hj]; rfl
  exact ⟨fun w hs => (Cl.blk rfl) w (hs.bag_take hj'), fun w hs => (Cl.blk rfl) w (hs.bag_take hj'), fun w hs => (Cl.blk rfl) w (hs.bag_take hj')⟩

theorem seNum_in {M : Mc} (h : M.Good) {x : Int × Se} (hx : x ∈ M.ss) : ∀ y ∈ seNum x, 0 ≤ y ∧ y < 281474976710656 := by
  have h1 := h.se x hx
  have h2 := h.ok.ids x hx
  have h3 := h.ok.ap
  have h4 := h.ok.len
  intro y hy
  simp only [seNum, List.mem_cons, List.not_mem_nil, or_false] at hy
  rcases hy with rfl | rfl | rfl | rfl <;> omega


theorem saveMR_spec {w0 w : World} {L : List HP} {p : Nat} {M : Mc} (hg : M.Good) (hll : M.l.length ≤ 4194304) (hs : Sat w0 w (MR p M :: L)) :
    Calls Try.prog 31 #[.pointer (some ⟨p, 0, none⟩)] w (RetS w0 (MR p M :: L) M.save) := by
  obtain ⟨X, cx, bm, ys, bs, hys, hbs, hs1⟩ := MR.opened hs
  clear hs
  obtain ⟨sp, ap, st, l, ss⟩ := M
  have h1 := hg.ok.len
  have h2 := hg.ok.ap
  have h3 := hg.ok.st
  have hfew := hg.few
  have hin := fun x (hx : x ∈ ss) => seNum_in hg hx
  have hbig := hg.big
  simp only at h1 h2 h3 hll hfew hys hbs hs1 hbig
  have hNx := fun (w : World) (L' : List HP) (hs : Sat w0 w L') (h4 : Cl w0 L' ⟨p, 4, none⟩ (.map (some bm))) (h2' : Cl w0 L' ⟨p, 2, none⟩ (.int .i64 st)) (h3' : Cl w0 L' ⟨p, 3, none⟩ (.slice X l.length cx)) => nextM_spec (p := p) (n := l.length) h3 (by omega) hs h4 h2' h3'
  have hln : (seMap bs).length = ss.length := by rw [← hbs]; simp [seMap, seStrip]
  have hN1 := fun (w : World) (L' : List HP) (A : Option Addr) (hs : Sat w0 w L') (h : Rd w0 L' A 4 1 [.int .i64 ap, .int .i64 st, .int .i64 (st + l.length), .int .i64 (ss.length : Int)]) => numbers_spec (n := 4) (c := 4) [ap, st, st + l.length, (ss.length : Int)] (by simp; omega) rfl (by omega) hs h
  have hnl := nms_len (xs := [ap, st, st + l.length, (ss.length : Int)]) (by simp; omega)
  obtain ⟨hd, hhd⟩ : ∃ z, nms [ap, st, st + l.length, (ss.length : Int)] = z := ⟨_, rfl⟩
  rw [hhd] at hN1 hnl
  simp only [List.length_cons, List.length_nil] at hnl
  obtain ⟨Z, hZ⟩ : ∃ z, Mc.save ⟨sp, ap, st, l, ss⟩ = z := ⟨_, rfl⟩
  have HZ : Hid (Z = hd ++ sesB (seSort ss) ++ recB l) := by unfold Hid; rw [← hZ, ← hhd]; rfl
  rw [hZ]
  clear hZ hhd
  have hSe := fun (w : World) (L' : List HP) (hs : Sat w0 w (MR p ⟨sp, ap, st, l, ss⟩ :: L')) => sessionsMR_spec (M := ⟨sp, ap, st, l, ss⟩) (by simp only; omega) hs
  clear hg
  go_enter Try.func31, Try.ntmps31
  refine wk_seq (fun K0 hK0 => ?_); refine wk_reg ?_; refine pl_take (v := ?_) rfl ?_ ?_; rotate_left; (· (go_simp; first | done | with_reducible rfl | rfl | omega | assumption | (simp; omega))); (try simp only [Act.put, aP, aZ, aS]); refine pl_done ?_; refine hK0.out _ _ ?_; (try clear hK0 K0); refine wk_seq (fun K1 hK1 => ?_); refine wk_seq (fun K2 hK2 => ?_); refine wk_reg ?_; refine pl_take (v := ?_) rfl ?_ ?_; rotate_left; (· (go_simp; first | done | with_reducible rfl | rfl | omega | assumption | (simp; omega))); (try simp only [Act.put, aP, aZ, aS]); refine pl_eff rfl (fun Kp hKp => ?_); go_simp; (refine (noneM_spec (b := bm) (by assumption) (by (repeat (first | with_reducible assumption | ((with_reducible apply Cl.own); exact rfl) | ((with_reducible apply Cl.blkL); exact rfl) | with_reducible apply Cl.cons)))).mono ?_; rintro e12 w12 ⟨rfl, hs12⟩); (try go_wp2_with fail); refine hKp.out _ _ ?_; clear hKp Kp; (try simp only [Act.put, aP, aZ, aS]); refine pl_done ?_; refine hK2.out _ _ ?_; (try clear hK2 K2); refine wp_cond_false rfl ?_; refine wp_skip ?_; refine hK1.out _ _ ?_; (try clear hK1 K1); refine wk_seq (fun K4 hK4 => ?_); refine rg_start rfl (by assumption) (fun wr3 hsr3 => ?_); refine rkT 0 (v := ?_) rfl (hy := ?_) (h := ?_); rotate_left; (· intro w hSw; (go_simp; first | done | with_reducible rfl | rfl | omega | assumption | (simp; omega))); (try simp only [Act.put, aP, aZ, aS]); refine rkT 1 (v := ?_) rfl (hy := ?_) (h := ?_); rotate_left; (· intro w hSw; (go_simp; first | done | with_reducible rfl | rfl | omega | assumption | (simp; omega))); (try simp only [Act.put, aP, aZ, aS]); refine rkT 2 (v := ?_) rfl (hy := ?_) (h := ?_); rotate_left; (· intro w hSw; (go_simp; first | done | with_reducible rfl | rfl | omega | assumption | (simp; omega))); (try simp only [Act.put, aP, aZ, aS]); refine rkT 3 (v := ?_) rfl (hy := ?_) (h := ?_); rotate_left; (· intro w hSw; ((with_reducible apply yl_load); assumption; rfl; (repeat (first | with_reducible assumption | ((with_reducible apply Cl.own); exact rfl) | ((with_reducible apply Cl.blkL); exact rfl) | with_reducible apply Cl.cons)); rfl)); (try simp only [Act.put, aP, aZ, aS]); refine rkT 4 (v := ?_) rfl (hy := ?_) (h := ?_); rotate_left; (· intro w hSw; (go_simp; first | done | with_reducible rfl | rfl | omega | assumption | (simp; omega))); (try simp only [Act.put, aP, aZ, aS]); refine rkT 5 (v := ?_) rfl (hy := ?_) (h := ?_); rotate_left; (· intro w hSw; (go_simp; first | done | with_reducible rfl | rfl | omega | assumption | (simp; omega))); (try simp only [Act.put, aP, aZ, aS]); refine rkT 6 (v := ?_) rfl (hy := ?_) (h := ?_); rotate_left; (· intro w hSw; (go_simp; first | done | with_reducible rfl | rfl | omega | assumption | (simp; omega))); (try simp only [Act.put, aP, aZ, aS]); refine rkT 7 (v := ?_) rfl (hy := ?_) (h := ?_); rotate_left; (· intro w hSw; ((with_reducible apply yl_load); assumption; rfl; (repeat (first | with_reducible assumption | ((with_reducible apply Cl.own); exact rfl) | ((with_reducible apply Cl.blkL); exact rfl) | with_reducible apply Cl.cons)); rfl)); (try simp only [Act.put, aP, aZ, aS]); refine rkT 8 (v := ?_) rfl (hy := ?_) (h := ?_); rotate_left; (· intro w hSw; (go_simp; first | done | with_reducible rfl | rfl | omega | assumption | (simp; omega))); (try simp only [Act.put, aP, aZ, aS]); refine rkT 10 (v := ?_) rfl (hy := ?_) (h := ?_); rotate_left; (· intro w hSw; (go_simp; first | done | with_reducible rfl | rfl | omega | assumption | (simp; omega))); (try simp only [Act.put, aP, aZ, aS]); refine rkT 11 (v := ?_) rfl (hy := ?_) (h := ?_); rotate_left; (· intro w hSw; (go_simp; first | done | with_reducible rfl | rfl | omega | assumption | (simp; omega))); (try simp only [Act.put, aP, aZ, aS]); refine rkT 12 (v := ?_) rfl (hy := ?_) (h := ?_); rotate_left; (· intro w hSw; (go_simp; first | done | with_reducible rfl | rfl | omega | assumption | (simp; omega))); (try simp only [Act.put, aP, aZ, aS]); refine rkT 13 (v := ?_) rfl (hy := ?_) (h := ?_); rotate_left; (· intro w hSw; ((with_reducible apply yl_load); assumption; rfl; (repeat (first | with_reducible assumption | ((with_reducible apply Cl.own); exact rfl) | ((with_reducible apply Cl.blkL); exact rfl) | with_reducible apply Cl.cons)); rfl)); (try simp only [Act.put, aP, aZ, aS]); refine rg_one (i := 9) (by kernel_rfl) rfl rfl (fun Kp hKp => ?_); go_simp; (refine (hNx _ _ (by assumption) (by (repeat (first | with_reducible assumption | ((with_reducible apply Cl.own); exact rfl) | ((with_reducible apply Cl.blkL); exact rfl) | with_reducible apply Cl.cons))) (by (repeat (first | with_reducible assumption | ((with_reducible apply Cl.own); exact rfl) | ((with_reducible apply Cl.blkL); exact rfl) | with_reducible apply Cl.cons))) (by (repeat (first | with_reducible assumption | ((with_reducible apply Cl.own); exact rfl) | ((with_reducible apply Cl.blkL); exact rfl) | with_reducible apply Cl.cons)))).mono ?_; rintro e22 w22 ⟨rfl, hs22⟩); (try go_wp2_with fail); refine rg_back (hK := hKp) ?_ (fun hsk22 => ?_); (· (first | assumption | (apply Sat.drew; assumption) | (apply Sat.pick; assumption; (repeat (first | exact Pick.nil _ | with_reducible exact Pick.tail _ | with_reducible exact Out.here _ | apply Out.there | apply Pick.cons | apply Pick.drop))))); clear hKp Kp
  have hsz22 := hs22
  (try simp only [Act.put, aP, aZ, aS]); refine rkT 14 (v := ?_) rfl (hy := ?_) (h := ?_); rotate_left; (· intro w hSw; ((with_reducible apply yl_maplenV (κ := Int)); assumption; rfl; (repeat (first | with_reducible exact Out.here _ | apply Out.there)); rw [hln])); (try simp only [Act.put, aP, aZ, aS]); refine rg_one (i := 15) (by kernel_rfl) rfl rfl (fun Kp hKp => ?_); ((with_reducible apply st_buildSlice); assumption; rfl; (go_simp; rfl); (simp [Value.cells]); omega; intro b28 w28 hs28); refine rg_back (hK := hKp) ?_ (fun hsk28 => ?_); (· (first | assumption | (apply Sat.drew; assumption) | (apply Sat.pick; assumption; (repeat (first | exact Pick.nil _ | with_reducible exact Pick.tail _ | with_reducible exact Out.here _ | apply Out.there | apply Pick.cons | apply Pick.drop))))); clear hKp Kp
  have hsz28 := hs28
  (try simp only [Act.put, aP, aZ, aS]); refine rg_one (i := 16) (by kernel_rfl) rfl rfl (fun Kp hKp => ?_); go_simp; (refine (hN1 _ _ _ (by assumption) (by (repeat (first | with_reducible assumption | with_reducible exact Rd.own | with_reducible exact Rd.nil | with_reducible apply Rd.cons)))).mono ?_; rintro e29 w29 ⟨Y0, c0, rfl, hs29⟩); (try go_wp2_with fail); refine rg_back (hK := hKp) ?_ (fun hsk29 => ?_); (· (first | assumption | (apply Sat.drew; assumption) | (apply Sat.pick; assumption; (repeat (first | exact Pick.nil _ | with_reducible exact Pick.tail _ | with_reducible exact Out.here _ | apply Out.there | apply Pick.cons | apply Pick.drop))))); clear hKp Kp
  have hsz29 := hs29
  (try simp only [Act.put, aP, aZ, aS]); refine rkT 17 (v := ?_) rfl (hy := ?_) (h := ?_); rotate_left; (· intro w hSw; (go_simp; first | done | with_reducible rfl | rfl | omega | assumption | (simp; omega))); (try simp only [Act.put, aP, aZ, aS]); refine rg_done (by kernel_rfl) ?_; refine hK4.out _ _ ?_; (try clear hK4 K4); refine wk_seq (fun K5 hK5 => ?_); refine wk_seq (fun K6 hK6 => ?_); refine wk_reg ?_; refine pl_take (v := ?_) rfl ?_ ?_; rotate_left; (· (go_simp; first | done | with_reducible rfl | rfl | omega | assumption | (simp; omega))); (try simp only [Act.put, aP, aZ, aS]); refine pl_eff rfl (fun Kp hKp => ?_); go_simp; (refine (hSe _ _ (MR.made (L := own 5 1 Y0 c0 hd.length (B8 hd) :: L) hys hbs ((by assumption : Sat w0 _ _).pick (by (repeat (first | exact Pick.nil _ | exact Pick.tail _ | exact Out.here _ | apply Out.there | apply Pick.cons | apply Pick.drop)))))).mono ?_; rintro e31 w31 ⟨KA, kc, kss, hkp, rfl, hsM31⟩); (rw [keys_sorted hkp] at hsM31; obtain ⟨X2, cx2, bm2, ys2, bs2, hys2, hbs2, hs31⟩ := MR.opened hsM31.swap; clear hsM31); (try go_wp2_with fail); refine hKp.out _ _ ?_; clear hKp Kp; (try simp only [Act.put, aP, aZ, aS]); (iterate 2 (refine pl_take (v := ?_) rfl ?_ ?_; rotate_left; (· (go_simp; first | done | with_reducible rfl | rfl | omega | assumption | (simp; omega))); (try simp only [Act.put, aP, aZ, aS]))); refine pl_done ?_; refine hK6.out _ _ ?_; (try clear hK6 K6); refine wp_block ?_
  -- at a loop
  obtain ⟨nk, hnk⟩ : ∃ z, kss.length = z := ⟨_, rfl⟩
  have hnk2 : nk = ss.length := by rw [← hnk, hkp.length_eq]; simp
  have hsl : (seSort ss).length = nk := by rw [hnk2]; exact (seSort_perm ss).length_eq
  rw [hnk] at hs31 ⊢
  obtain ⟨sq, hsq⟩ : ∃ z, seSort ss = z := ⟨_, rfl⟩
  have hsm : ∀ x ∈ sq, x ∈ ss := fun x hx => by rw [← hsq] at hx; exact (seSort_perm ss).subset hx
  rw [hsq] at hsl hs31 HZ
  have Hnk := Hid.mk' hnk
  have Hsl := Hid.mk' hsl
  have Hys := Hid.mk' hys2
  have Hbs := Hid.mk' hbs2
  have hyl : Hid (ys2.length = l.length) := by have := congrArg List.length hys2; simpa [Hid] using this
  have hnk16 : nk ≤ 16 := by omega
  clear hnk2
  clear hnk hsl hkp hsq hys hbs hln hys2 hbs2 hs1 hSe hN1 hNx hs12 hs22 hs28 hs29
  go_loopg [3, 33] nk (fun g s3 s33 wr => ∃ (k q cz : Nat) (Z : Option Addr), s3 = .slice Z q cz ∧ s33 = .int .i64 k ∧ k ≤ nk ∧ nk - k ≤ g ∧ q ≤ 32 + 32 * k ∧ Hid (q = (hd ++ sesB (sq.take k)).length) ∧ Sat w0 wr (own 5 1 Z cz q (B8 (hd ++ sesB (sq.take k))) :: own 3 1 KA kc nk (I8 (sq.map (·.1))) :: mcBlk p ⟨sp, ap, st, l, ss⟩ X2 cx2 bm2 :: own 33 1 X2 cx2 l.length (recCells ys2) :: DV (recData ys2) :: mp (Value.int .i64) In64 bm2 (seMap bs2) :: SatH (seBlks bs2) :: L))
  case atStart => exact ⟨0, hd.length, c0, Y0, rfl, rfl, Nat.zero_le _, Nat.le_refl _, by omega, by simp [sesB, Hid], by rw [show hd ++ sesB (sq.take 0) = hd from by simp [sesB]]; exact (by assumption : Sat w0 _ _).pick (by (repeat (first | exact Pick.nil _ | exact Pick.tail _ | exact Out.here _ | apply Out.there | apply Pick.cons | apply Pick.drop)))⟩
  case round =>
    obtain ⟨k, q, cz, Z1, rfl, rfl, hk, hg, hq, Hq, hsC⟩ := hrel
    clear hs31
    by_cases hlt : k < nk
    · obtain ⟨⟨id, se⟩, hx⟩ : ∃ x, sq[k]? = some x := ⟨sq[k]'(by have := Hsl.out; omega), List.getElem?_eq_getElem _⟩
      have hxm := hsm _ (List.mem_of_getElem? hx)
      have hxb := hin _ hxm
      obtain ⟨bb, hbb⟩ : ∃ bb, (id, bb, se) ∈ bs2 := by
        have h := hxm
        rw [← Hbs.out] at h
        obtain ⟨⟨i', b', s'⟩, h5, h6⟩ := List.mem_map.1 h
        simp only [Prod.mk.injEq] at h6
        obtain ⟨rfl, rfl⟩ := h6
        exact ⟨b', h5⟩
      obtain ⟨hnd, hik⟩ := mp_keys (hsC.pick (T := mp (Value.int .i64) In64 bm2 (seMap bs2) :: L) (by (repeat (first | exact Pick.nil _ | exact Pick.tail _ | exact Out.here _ | apply Out.there | apply Pick.cons | apply Pick.drop))))
      rw [seMap_keys] at hnd
      have hid : In64 id := hik (id, _) (List.mem_map.2 ⟨_, hbb, rfl⟩)
      have hget := (seAt_some (M := ⟨sp, ap, st, l, ss⟩) Hbs.out hnd hbb).2
      have hc := Cl.se' (w0 := w0) (L := L) hbb
      obtain ⟨sq', sn, sti⟩ := se
      obtain ⟨hc0, hc1, hc2⟩ := hc
      simp only at hc0 hc1 hc2
      obtain ⟨gkk, rfl⟩ := (hsC.pick (T := own 3 1 KA kc nk (I8 (sq.map (·.1))) :: L) (by (repeat (first | exact Pick.nil _ | exact Pick.tail _ | exact Out.here _ | apply Out.there | apply Pick.cons | apply Pick.drop)))).own_some (by omega)
      have hck : Cl w0 (own 3 1 (some ⟨gkk, 0, none⟩) kc nk (I8 (sq.map (·.1))) :: mcBlk p ⟨sp, ap, st, l, ss⟩ X2 cx2 bm2 :: own 33 1 X2 cx2 l.length (recCells ys2) :: DV (recData ys2) :: mp (Value.int .i64) In64 bm2 (seMap bs2) :: SatH (seBlks bs2) :: L) ⟨gkk, k, none⟩ (.int .i64 id) := by
        have := (Rd.own (w0 := w0) (E := 3) (c := kc) (A := some ⟨gkk, 0, none⟩) (n := nk) (sz := 1) (xs := I8 (sq.map (·.1))) (L := mcBlk p ⟨sp, ap, st, l, ss⟩ X2 cx2 bm2 :: own 33 1 X2 cx2 l.length (recCells ys2) :: DV (recData ys2) :: mp (Value.int .i64) In64 bm2 (seMap bs2) :: SatH (seBlks bs2) :: L)).elt (k := k) (u := .int .i64 id) (by simp [I8, hx])
        simpa using this
      have hN2 := fun (w : World) (L' : List HP) (A : Option Addr) (hs : Sat w0 w L') (h : Rd w0 L' A 4 1 [.int .i64 id, .int .i64 sq', .int .i64 sn, .int .i64 sti]) => numbers_spec (n := 4) (c := 4) [id, sq', sn, sti] hxb rfl (by omega) hs h
      have hnl2 := nms_len (xs := [id, sq', sn, sti]) hxb
      simp only [List.length_cons, List.length_nil] at hnl2
      have Hs : Hid (hd ++ sesB (sq.take (k + 1)) = (hd ++ sesB (sq.take k)) ++ nms [id, sq', sn, sti]) := by
        unfold Hid; rw [take_snocM hx]; simp [sesB, seNum]
      obtain ⟨y, hy⟩ : ∃ z, nms [id, sq', sn, sti] = z := ⟨_, rfl⟩
      rw [hy] at hN2 hnl2 Hs
      obtain ⟨pre, hpre⟩ : ∃ z, hd ++ sesB (sq.take k) = z := ⟨_, rfl⟩
      rw [hpre] at Hs Hq hsC
      have HB : Hid (B8 pre ++ B8 y = B8 (hd ++ sesB (sq.take (k + 1)))) := by unfold Hid; rw [Hs.out]; simp [B8]
      have Hq2 : Hid (q + y.length = (hd ++ sesB (sq.take (k + 1))).length) := by unfold Hid; rw [Hs.out, List.length_append, Hq.out]
      have i0 : (0 : Int) ≤ (k : Int) := by omega
      have i1 : (k : Int) < (nk : Int) := by omega
      have hwk : IntKind.i64.wrap ((k : Int) + 1) = (k : Int) + 1 := IntWalk.i64_in _ (by omega)
      clear hx hxm hbb hnd hik hy hpre Hs hxb hin hsm
      refine wk_seq (fun K7 hK7 => ?_); refine wk_reg ?_; refine pl_take (v := .bool true) rfl ?_ ?_; (· (go_simp; first | done | with_reducible rfl | rfl | omega | assumption | (simp; omega))); (try simp only [Act.put, aP, aZ, aS]); refine pl_done ?_; refine hK7.out _ _ ?_; (try clear hK7 K7); refine wk_seq (fun K8 hK8 => ?_); refine wp_cond_true rfl ?_; refine wp_skip ?_; refine hK8.out _ _ ?_; (try clear hK8 K8); refine wk_seq (fun K9 hK9 => ?_); refine wp_block ?_; refine wk_seq (fun K10 hK10 => ?_); refine wk_reg ?_; (iterate 3 (refine pl_take (v := ?_) rfl ?_ ?_; rotate_left; (· (first | ((with_reducible apply yl_load); assumption; rfl; (repeat (first | with_reducible assumption | ((with_reducible apply Cl.own); exact rfl) | ((with_reducible apply Cl.blkL); exact rfl) | with_reducible apply Cl.cons)); rfl) | (go_simp; first | done | with_reducible rfl | rfl | omega | assumption | (simp; omega)))); (try simp only [Act.put, aP, aZ, aS]))); refine pl_done ?_; refine hK10.out _ _ ?_; (try clear hK10 K10); refine wk_seq (fun K11 hK11 => ?_); refine wk_reg ?_; (iterate 5 (refine pl_take (v := ?_) rfl ?_ ?_; rotate_left; (· (first | ((with_reducible apply yl_load); assumption; rfl; (repeat (first | with_reducible assumption | ((with_reducible apply Cl.own); exact rfl) | ((with_reducible apply Cl.blkL); exact rfl) | with_reducible apply Cl.cons)); rfl) | (go_simp; first | done | with_reducible rfl | rfl | omega | assumption | (simp; omega)))); (try simp only [Act.put, aP, aZ, aS]))); refine pl_take (v := (.pointer (some ⟨bb, 0, none⟩))) rfl ?_ ?_; (· ((with_reducible apply yl_lookupV (xk := id) ktInt); assumption; rfl; rfl; (repeat (first | with_reducible exact Out.here _ | apply Out.there)); exact hid; (simp [hget]))); (try simp only [Act.put, aP, aZ, aS]); refine pl_take (v := ?_) rfl ?_ ?_; rotate_left; (· (go_simp; first | done | with_reducible rfl | rfl | omega | assumption | (simp; omega))); (try simp only [Act.put, aP, aZ, aS]); refine pl_done ?_; refine hK11.out _ _ ?_; (try clear hK11 K11); refine rg_start2 (L := own 3 1 (some ⟨gkk, 0, none⟩) kc nk (I8 (sq.map (·.1))) :: mcBlk p ⟨sp, ap, st, l, ss⟩ X2 cx2 bm2 :: own 33 1 X2 cx2 l.length (recCells ys2) :: DV (recData ys2) :: mp (Value.int .i64) In64 bm2 (seMap bs2) :: SatH (seBlks bs2) :: L) rfl (by assumption) (by (repeat (first | exact Pick.nil _ | with_reducible exact Pick.tail _ | with_reducible exact Out.here _ | apply Out.there | apply Pick.cons | apply Pick.drop))) (fun wr8 hsr8 hsq8 => ?_)
      have hsz8 := hsr8
      refine rkT 0 (v := ?_) rfl (hy := ?_) (h := ?_); rotate_left; (· intro w hSw; (go_simp; first | done | with_reducible rfl | rfl | omega | assumption | (simp; omega))); (try simp only [Act.put, aP, aZ, aS]); refine rkT 1 (v := ?_) rfl (hy := ?_) (h := ?_); rotate_left; (· intro w hSw; (go_simp; first | done | with_reducible rfl | rfl | omega | assumption | (simp; omega))); (try simp only [Act.put, aP, aZ, aS]); refine rkT 2 (v := ?_) rfl (hy := ?_) (h := ?_); rotate_left; (· intro w hSw; (go_simp; first | done | with_reducible rfl | rfl | omega | assumption | (simp; omega))); (try simp only [Act.put, aP, aZ, aS]); refine rkT 3 (v := ?_) rfl (hy := ?_) (h := ?_); rotate_left; (· intro w hSw; (go_simp; first | done | with_reducible rfl | rfl | omega | assumption | (simp; omega))); (try simp only [Act.put, aP, aZ, aS]); refine rkT 4 (v := ?_) rfl (hy := ?_) (h := ?_); rotate_left; (· intro w hSw; (go_simp; first | done | with_reducible rfl | rfl | omega | assumption | (simp; omega))); (try simp only [Act.put, aP, aZ, aS]); refine rkT 5 (v := ?_) rfl (hy := ?_) (h := ?_); rotate_left; (· intro w hSw; ((with_reducible apply yl_load); assumption; rfl; (repeat (first | with_reducible assumption | ((with_reducible apply Cl.own); exact rfl) | ((with_reducible apply Cl.blkL); exact rfl) | with_reducible apply Cl.cons)); rfl)); (try simp only [Act.put, aP, aZ, aS]); refine rkT 6 (v := ?_) rfl (hy := ?_) (h := ?_); rotate_left; (· intro w hSw; (go_simp; first | done | with_reducible rfl | rfl | omega | assumption | (simp; omega))); (try simp only [Act.put, aP, aZ, aS]); refine rkT 7 (v := ?_) rfl (hy := ?_) (h := ?_); rotate_left; (· intro w hSw; (go_simp; first | done | with_reducible rfl | rfl | omega | assumption | (simp; omega))); (try simp only [Act.put, aP, aZ, aS]); refine rkT 8 (v := ?_) rfl (hy := ?_) (h := ?_); rotate_left; (· intro w hSw; (go_simp; first | done | with_reducible rfl | rfl | omega | assumption | (simp; omega))); (try simp only [Act.put, aP, aZ, aS]); refine rkT 9 (v := ?_) rfl (hy := ?_) (h := ?_); rotate_left; (· intro w hSw; ((with_reducible apply yl_load); assumption; rfl; (repeat (first | with_reducible assumption | ((with_reducible apply Cl.own); exact rfl) | ((with_reducible apply Cl.blkL); exact rfl) | with_reducible apply Cl.cons)); rfl)); (try simp only [Act.put, aP, aZ, aS]); refine rkT 10 (v := ?_) rfl (hy := ?_) (h := ?_); rotate_left; (· intro w hSw; (go_simp; first | done | with_reducible rfl | rfl | omega | assumption | (simp; omega))); (try simp only [Act.put, aP, aZ, aS]); refine rkT 11 (v := ?_) rfl (hy := ?_) (h := ?_); rotate_left; (· intro w hSw; (go_simp; first | done | with_reducible rfl | rfl | omega | assumption | (simp; omega))); (try simp only [Act.put, aP, aZ, aS]); refine rkT 12 (v := ?_) rfl (hy := ?_) (h := ?_); rotate_left; (· intro w hSw; (go_simp; first | done | with_reducible rfl | rfl | omega | assumption | (simp; omega))); (try simp only [Act.put, aP, aZ, aS]); refine rkT 13 (v := ?_) rfl (hy := ?_) (h := ?_); rotate_left; (· intro w hSw; ((with_reducible apply yl_load); assumption; rfl; (repeat (first | with_reducible assumption | ((with_reducible apply Cl.own); exact rfl) | ((with_reducible apply Cl.blkL); exact rfl) | with_reducible apply Cl.cons)); rfl)); (try simp only [Act.put, aP, aZ, aS]); refine rg_one (i := 14) (by kernel_rfl) rfl rfl (fun Kp hKp => ?_); ((with_reducible apply st_buildSlice); assumption; rfl; (go_simp; rfl); (simp [Value.cells]); omega; intro b57 w57 hs57); refine rg_back (hK := hKp) ?_ (fun hsk57 => ?_); (· (first | assumption | (apply Sat.drew; assumption) | (apply Sat.pick; assumption; (repeat (first | exact Pick.nil _ | with_reducible exact Pick.tail _ | with_reducible exact Out.here _ | apply Out.there | apply Pick.cons | apply Pick.drop))))); clear hKp Kp
      have hsz57 := hs57
      (try simp only [Act.put, aP, aZ, aS]); refine rg_one (i := 15) (by kernel_rfl) rfl rfl (fun Kp hKp => ?_); go_simp; (refine (hN2 _ _ _ (by assumption) (by (repeat (first | with_reducible assumption | with_reducible exact Rd.own | with_reducible exact Rd.nil | with_reducible apply Rd.cons)))).mono ?_; rintro e58 w58 ⟨Y58, c58, rfl, hs58⟩); (try go_wp2_with fail); refine rg_back (hK := hKp) ?_ (fun hsk58 => ?_); (· (first | assumption | (apply Sat.drew; assumption) | (apply Sat.pick; assumption; (repeat (first | exact Pick.nil _ | with_reducible exact Pick.tail _ | with_reducible exact Out.here _ | apply Out.there | apply Pick.cons | apply Pick.drop))))); clear hKp Kp
      have hsz58 := hs58
      (try simp only [Act.put, aP, aZ, aS]); refine rg_one (i := 16) (by kernel_rfl) rfl rfl (fun Kp hKp => ?_); ((with_reducible apply st_append); go_must (assumption; rfl; rfl; (repeat (first | with_reducible exact Out.here _ | apply Out.there)); (repeat (first | with_reducible assumption | with_reducible exact Rd.own | with_reducible exact Rd.nil | with_reducible apply Rd.cons)); (first | exact B8_one _ | exact I8_one _ | (simp [Value.oneCell'])); (first | omega | (simp only [maxLen]; omega)); omega; intro A59 c59 w59 hs59 hc59; (try ((refine hs59.own_elim ?_ ?_); omega; rintro g59 rfl)); try simp only [Nat.zero_add, List.nil_append] at hs59 hc59)); refine rg_back (hK := hKp) ?_ (fun hsk59 => ?_); (· (first | assumption | (apply Sat.drew; assumption) | (apply Sat.pick; assumption; (repeat (first | exact Pick.nil _ | with_reducible exact Pick.tail _ | with_reducible exact Out.here _ | apply Out.there | apply Pick.cons | apply Pick.drop))))); clear hKp Kp
      have hsz59 := hs59
      (try simp only [Act.put, aP, aZ, aS]); refine rkT 17 (v := ?_) rfl (hy := ?_) (h := ?_); rotate_left; (· intro w hSw; (go_simp; first | done | with_reducible rfl | rfl | omega | assumption | (simp; omega))); (try simp only [Act.put, aP, aZ, aS]); refine rg_done (by kernel_rfl) ?_; refine hK9.out _ _ ?_; (try clear hK9 K9); refine wk_reg ?_; (iterate 2 (refine pl_take (v := ?_) rfl ?_ ?_; rotate_left; (· (go_simp; first | done | with_reducible rfl | rfl | omega | assumption | (simp; omega))); (try simp only [Act.put, aP, aZ, aS]))); refine pl_done ?_; (try dsimp only [Exit.inBlock, Exit.then])
      refine (by assumption : ∀ a' w', Handed _ _ a' w' → _) _ _ ?_
      go_roundg (gk - 1)
      case measure => omega
      case rel => exact ⟨k + 1, q + y.length, _, _, by go_num, by go_num, by omega, by omega, by omega, Hq2, by rw [← HB.out]; exact (by assumption : Sat w0 _ _).pick (by (repeat (first | exact Pick.nil _ | exact Pick.tail _ | exact Out.here _ | apply Out.there | apply Pick.cons | apply Pick.drop)))⟩
    · obtain rfl : k = nk := by omega
      rw [List.take_of_length_le (by have := Hsl.out; omega)] at Hq hsC
      have HZ2 : Hid (Z = (hd ++ sesB sq) ++ recB l) := HZ
      obtain ⟨pre, hpre⟩ : ∃ z, hd ++ sesB sq = z := ⟨_, rfl⟩
      rw [hpre] at Hq hsC HZ2
      clear hpre HZ hin hsm
      refine wk_seq (fun K7 hK7 => ?_); refine wk_reg ?_; refine pl_take (v := .bool false) rfl ?_ ?_; (· (go_simp; first | done | with_reducible rfl | rfl | omega | assumption | (simp; omega))); (try simp only [Act.put, aP, aZ, aS]); refine pl_done ?_; refine hK7.out _ _ ?_; (try clear hK7 K7); refine wk_seq (fun K8 hK8 => ?_); refine wp_cond_false rfl ?_; refine wp_exit ?_; refine hK5.out _ _ ?_; (try clear hK5 K5); refine wk_seq (fun K12 hK12 => ?_); refine wk_seq (fun K13 hK13 => ?_); refine wk_reg ?_; (iterate 6 (refine pl_take (v := ?_) rfl ?_ ?_; rotate_left; (· (first | ((with_reducible apply yl_load); assumption; rfl; (repeat (first | with_reducible assumption | ((with_reducible apply Cl.own); exact rfl) | ((with_reducible apply Cl.blkL); exact rfl) | with_reducible apply Cl.cons)); rfl) | (go_simp; first | done | with_reducible rfl | rfl | omega | assumption | (simp; omega)))); (try simp only [Act.put, aP, aZ, aS]))); refine pl_done ?_; refine hK13.out _ _ ?_; (try clear hK13 K13); refine wp_block ?_
      -- at a loop
      go_loopg [3, 66] l.length (fun g s3 s66 wr => ∃ (i q cz : Nat) (Z : Option Addr), s3 = .slice Z q cz ∧ s66 = .int .i64 i ∧ i ≤ l.length ∧ l.length - i ≤ g ∧ q ≤ 1000 + 1040 * i ∧ Hid (q = (pre ++ recB (l.take i)).length) ∧ Sat w0 wr (own 5 1 Z cz q (B8 (pre ++ recB (l.take i))) :: mcBlk p ⟨sp, ap, st, l, ss⟩ X2 cx2 bm2 :: own 33 1 X2 cx2 l.length (recCells ys2) :: DV (recData ys2) :: mp (Value.int .i64) In64 bm2 (seMap bs2) :: SatH (seBlks bs2) :: L))
      case atStart => exact ⟨0, q, cz, Z1, rfl, rfl, Nat.zero_le _, Nat.le_refl _, by omega, by unfold Hid; rw [show pre ++ recB (l.take 0) = pre from by simp [recB]]; exact Hq.out, by rw [show pre ++ recB (l.take 0) = pre from by simp [recB]]; exact (by assumption : Sat w0 _ _).pick (by (repeat (first | exact Pick.nil _ | exact Pick.tail _ | exact Out.here _ | apply Out.there | apply Pick.cons | apply Pick.drop)))⟩
      case round =>
        obtain ⟨i, q, cz, Z1, rfl, rfl, hi, hg, hq, Hq, hsC⟩ := hrel
        by_cases hlt : i < l.length
        · obtain ⟨⟨d, D, dc⟩, hx⟩ : ∃ x, ys2[i]? = some x := ⟨ys2[i]'(by have := hyl.out; omega), List.getElem?_eq_getElem _⟩
          have hxl : l[i]? = some d := by rw [← Hys.out, List.getElem?_map, hx]; rfl
          have hdl := hbig d (List.mem_of_getElem? hxl)
          obtain ⟨gb, rfl⟩ := (hsC.pick (T := own 33 1 X2 cx2 l.length (recCells ys2) :: L) (by (repeat (first | exact Pick.nil _ | exact Pick.tail _ | exact Out.here _ | apply Out.there | apply Pick.cons | apply Pick.drop)))).own_some (by omega)
          have hcell : Cl w0 (own 33 1 (some ⟨gb, 0, none⟩) cx2 l.length (recCells ys2) :: DV (recData ys2) :: mp (Value.int .i64) In64 bm2 (seMap bs2) :: SatH (seBlks bs2) :: L) ⟨gb, i, none⟩ (.slice D d.length dc) := by
            have := (Rd.own (w0 := w0) (E := 33) (c := cx2) (A := some ⟨gb, 0, none⟩) (n := l.length) (sz := 1) (xs := recCells ys2) (L := DV (recData ys2) :: mp (Value.int .i64) In64 bm2 (seMap bs2) :: SatH (seBlks bs2) :: L)).elt (k := i) (u := .slice D d.length dc) (by unfold recCells; rw [List.getElem?_map, hx]; rfl)
            simpa using this
          have hdv : Rd w0 (DV (recData ys2) :: mp (Value.int .i64) In64 bm2 (seMap bs2) :: SatH (seBlks bs2) :: L) D d.length 1 (B8 d) := DV.rd (List.mem_map.2 ⟨(d, D, dc), List.mem_of_getElem? hx, rfl⟩)
          have hP : ∀ (w : World) (L : List HP) (A : Option Addr) (c : Nat), Sat w0 w L → Rd w0 L A d.length 1 (B8 d) → Calls Try.prog 43 #[.slice A d.length c] w (RetT w0 L (txt d, 0)) := fun w L A c hs hR => by
            have h := putBytes_spec (c := c) d (by omega) hs hR
            rw [show putBytes d = (txt d, 0) from by unfold putBytes txt; rw [if_neg (by omega)]] at h
            exact h
          have hyl2 : (txt d).length ≤ 1040 := by
            have := num_len d.length (by omega)
            unfold txt; rw [List.length_append]; omega
          have Hs : Hid (pre ++ recB (l.take (i + 1)) = (pre ++ recB (l.take i)) ++ txt d) := by
            unfold Hid; rw [take_snocM hxl]; simp [recB]
          obtain ⟨y, hy⟩ : ∃ z, txt d = z := ⟨_, rfl⟩
          rw [hy] at hP hyl2 Hs
          obtain ⟨pr2, hpr⟩ : ∃ z, pre ++ recB (l.take i) = z := ⟨_, rfl⟩
          rw [hpr] at Hs Hq hsC
          have HB : Hid (B8 pr2 ++ B8 y = B8 (pre ++ recB (l.take (i + 1)))) := by unfold Hid; rw [Hs.out]; simp [B8]
          have Hq2 : Hid (q + y.length = (pre ++ recB (l.take (i + 1))).length) := by unfold Hid; rw [Hs.out, List.length_append, Hq.out]
          have i0 : (0 : Int) ≤ (i : Int) := by omega
          have i1 : (i : Int) < (l.length : Int) := by omega
          have hwk : IntKind.i64.wrap ((i : Int) + 1) = (i : Int) + 1 := IntWalk.i64_in _ (by omega)
          clear hx hxl hy hpr Hs hbig
          refine wk_seq (fun K14 hK14 => ?_); refine wk_reg ?_; refine pl_take (v := .bool true) rfl ?_ ?_; (· (go_simp; first | done | with_reducible rfl | rfl | omega | assumption | (simp; omega))); (try simp only [Act.put, aP, aZ, aS]); refine pl_done ?_; refine hK14.out _ _ ?_; (try clear hK14 K14); refine wk_seq (fun K15 hK15 => ?_); refine wp_cond_true rfl ?_; refine wp_skip ?_; refine hK15.out _ _ ?_; (try clear hK15 K15); refine wk_seq (fun K16 hK16 => ?_); refine wp_block ?_; refine wk_seq (fun K17 hK17 => ?_); refine wk_reg ?_; (iterate 3 (refine pl_take (v := ?_) rfl ?_ ?_; rotate_left; (· (first | ((with_reducible apply yl_load); assumption; rfl; (repeat (first | with_reducible assumption | ((with_reducible apply Cl.own); exact rfl) | ((with_reducible apply Cl.blkL); exact rfl) | with_reducible apply Cl.cons)); rfl) | (go_simp; first | done | with_reducible rfl | rfl | omega | assumption | (simp; omega)))); (try simp only [Act.put, aP, aZ, aS]))); refine pl_done ?_; refine hK17.out _ _ ?_; (try clear hK17 K17); refine wk_seq (fun K18 hK18 => ?_); refine wk_reg ?_; refine pl_take (v := ?_) rfl ?_ ?_; rotate_left; (· (go_simp; first | done | with_reducible rfl | rfl | omega | assumption | (simp; omega))); (try simp only [Act.put, aP, aZ, aS]); refine pl_eff rfl (fun Kp hKp => ?_); go_simp; (refine (hP _ _ _ _ (by assumption) (by (repeat (first | with_reducible assumption | with_reducible exact Rd.own | with_reducible exact Rd.nil | with_reducible apply Rd.cons)))).mono ?_; rintro e72 w72 ⟨Y72, c72, rfl, hs72⟩; simp only at hs72 ⊢); (try go_wp2_with fail); refine hKp.out _ _ ?_; clear hKp Kp; (try simp only [Act.put, aP, aZ, aS]); (iterate 5 (refine pl_take (v := ?_) rfl ?_ ?_; rotate_left; (· (go_simp; first | done | with_reducible rfl | rfl | omega | assumption | (simp; omega))); (try simp only [Act.put, aP, aZ, aS]))); refine pl_done ?_; refine hK18.out _ _ ?_; (try clear hK18 K18); refine wk_reg ?_; (iterate 2 (refine pl_take (v := ?_) rfl ?_ ?_; rotate_left; (· (go_simp; first | done | with_reducible rfl | rfl | omega | assumption | (simp; omega))); (try simp only [Act.put, aP, aZ, aS]))); refine pl_eff rfl (fun Kp hKp => ?_); ((with_reducible apply st_append); go_must (assumption; rfl; rfl; (repeat (first | with_reducible exact Out.here _ | apply Out.there)); (repeat (first | with_reducible assumption | with_reducible exact Rd.own | with_reducible exact Rd.nil | with_reducible apply Rd.cons)); (first | exact B8_one _ | exact I8_one _ | (simp [Value.oneCell'])); (first | omega | (simp only [maxLen]; omega)); omega; intro A77 c77 w77 hs77 hc77; (try ((refine hs77.own_elim ?_ ?_); omega; rintro g77 rfl)); try simp only [Nat.zero_add, List.nil_append] at hs77 hc77)); refine hKp.out _ _ ?_; clear hKp Kp; (try simp only [Act.put, aP, aZ, aS]); refine pl_take (v := ?_) rfl ?_ ?_; rotate_left; (· (go_simp; first | done | with_reducible rfl | rfl | omega | assumption | (simp; omega))); (try simp only [Act.put, aP, aZ, aS]); refine pl_done ?_; refine hK16.out _ _ ?_; (try clear hK16 K16); refine wk_reg ?_; (iterate 2 (refine pl_take (v := ?_) rfl ?_ ?_; rotate_left; (· (go_simp; first | done | with_reducible rfl | rfl | omega | assumption | (simp; omega))); (try simp only [Act.put, aP, aZ, aS]))); refine pl_done ?_; (try dsimp only [Exit.inBlock, Exit.then])
          refine (by assumption : ∀ a' w', Handed _ _ a' w' → _) _ _ ?_
          go_roundg (gk - 1)
          case measure => omega
          case rel => exact ⟨i + 1, q + y.length, _, _, by go_num, by go_num, by omega, by omega, by omega, Hq2, by rw [← HB.out]; exact (by assumption : Sat w0 _ _).pick (by (repeat (first | exact Pick.nil _ | exact Pick.tail _ | exact Out.here _ | apply Out.there | apply Pick.cons | apply Pick.drop)))⟩
        · obtain rfl : i = l.length := by omega
          rw [List.take_length] at Hq hsC
          rw [← HZ2.out] at Hq hsC
          obtain rfl := Hq.out
          refine wk_seq (fun K14 hK14 => ?_); refine wk_reg ?_; refine pl_take (v := .bool false) rfl ?_ ?_; (· (go_simp; first | done | with_reducible rfl | rfl | omega | assumption | (simp; omega))); (try simp only [Act.put, aP, aZ, aS]); refine pl_done ?_; refine hK14.out _ _ ?_; (try clear hK14 K14); refine wk_seq (fun K15 hK15 => ?_); refine wp_cond_false rfl ?_; refine wp_exit ?_; refine hK12.out _ _ ?_; (try clear hK12 K12); refine wk_seq (fun K19 hK19 => ?_); refine wk_reg ?_; (iterate 2 (refine pl_take (v := ?_) rfl ?_ ?_; rotate_left; (· (go_simp; first | done | with_reducible rfl | rfl | omega | assumption | (simp; omega))); (try simp only [Act.put, aP, aZ, aS]))); refine pl_done ?_; refine hK19.out _ _ ?_; (try clear hK19 K19); refine wp_ret ?_
          go_ret
          exact ⟨Z1, cz, rfl, (MR.made (L := own 5 1 Z1 cz Z.length (B8 Z) :: L) Hys.out Hbs.out ((by assumption : Sat w0 _ _).pick (by (repeat (first | exact Pick.nil _ | exact Pick.tail _ | exact Out.here _ | apply Out.there | apply Pick.cons | apply Pick.drop))))).pick (by (repeat (first | exact Pick.nil _ | exact Pick.tail _ | exact Out.here _ | apply Out.there | apply Pick.cons | apply Pick.drop)))⟩
end Go.Proofs.Ytdlimjcidblneaa
