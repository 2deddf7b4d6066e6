/-
  Restore of the program: plainly, and its walk.
-/
import Derived.Test.YtdlimjcidblneaaMs1
import Derived.Test.YtdlimjcidblneaaSlMe
import Derived.Deep.CutRange
namespace Go.Proofs.Ytdlimjcidblneaa
open Go Go.RowKit Sl Go.Shelf
set_option maxHeartbeats 20000000
set_option maxRecDepth 8000

/-- Four numbers, one behind the other. -/
def rs4 (e : Int) (b : List UInt8) : (Int × Int × Int × Int) × Int × List UInt8 :=
  let a := rdNumber e b
  let c := rdNumber a.2.1 a.2.2
  let d := rdNumber c.2.1 c.2.2
  let f := rdNumber d.2.1 d.2.2
  ((a.1, c.1, d.1, f.1), f.2.1, f.2.2)
def sesOk (ap nx was : Int) (x : Int × Int × Int × Int) : Prop := was < x.1 ∧ x.1 ≤ ap ∧ x.2.1 < 1099511627776 ∧ (x.2.2.1 < nx ∨ x.2.2.1 = 0) ∧ x.1 ≤ x.2.2.2 ∧ x.2.2.2 ≤ ap
instance (ap nx was : Int) (x : Int × Int × Int × Int) : Decidable (sesOk ap nx was x) := by unfold sesOk; infer_instance
def sesOf (x : Int × Int × Int × Int) : Int × Se := (x.1, ⟨x.2.1, x.2.2.1, x.2.2.2⟩)
def rsSes (ap nx : Int) : Nat → Int → List (Int × Se) → Int → List UInt8 → Option (List (Int × Se) × Int × List UInt8)
  | 0, _, acc, e, b => some (acc, e, b)
  | k + 1, was, acc, e, b => if sesOk ap nx was (rs4 e b).1 then rsSes ap nx k (rs4 e b).1.1 (acc ++ [sesOf (rs4 e b).1]) (rs4 e b).2.1 (rs4 e b).2.2 else none
def rsRec : Nat → List (List UInt8) → Int → List UInt8 → Option (List (List UInt8) × Int × List UInt8)
  | 0, acc, e, b => some (acc, e, b)
  | k + 1, acc, e, b => if (rdBytes e b).2.1 = 0 ∧ (rdBytes e b).1.length ≤ 1024 then rsRec k (acc ++ [(rdBytes e b).1]) (rdBytes e b).2.1 (rdBytes e b).2.2 else none
def rsFin (sp ap st : Int) (ss : List (Int × Se)) (o : Option (List (List UInt8) × Int × List UInt8)) : Option Mc × Int :=
  match o with
  | none => (none, 21)
  | some (l, e, b) => if rdEnd e b = 0 then (some ⟨sp, ap, st, l, ss⟩, 0) else (none, 21)
def rsFin1 (sp ap st nx : Int) (o : Option (List (Int × Se) × Int × List UInt8)) : Option Mc × Int :=
  match o with
  | none => (none, 21)
  | some (ss, e, b) => rsFin sp ap st ss (rsRec (nx - st).toNat [] e b)
def hdOk (x : Int × Int × Int × Int) : Prop := x.1 < 1099511627776 ∧ x.2.1 ≤ x.2.2.1 ∧ x.2.2.1 < 1099511627776 ∧ x.2.2.2 ≤ 16
instance (x : Int × Int × Int × Int) : Decidable (hdOk x) := by unfold hdOk; infer_instance
def Mc.restore (sp : Int) (b : List UInt8) : Option Mc × Int :=
  if sp < 1 ∨ 1099511627776 < sp then (none, 1)
  else if hdOk (rs4 0 b).1 then rsFin1 sp (rs4 0 b).1.1 (rs4 0 b).1.2.1 (rs4 0 b).1.2.2.1 (rsSes (rs4 0 b).1.1 (rs4 0 b).1.2.2.1 (rs4 0 b).1.2.2.2.toNat 0 [] (rs4 0 b).2.1 (rs4 0 b).2.2)
  else (none, 21)

/-- It has answered: a machine, or none. -/
def RetRes (w0 : World) (L : List HP) (Z : Option Mc × Int) (e : Ending) (w' : World) : Prop :=
  (Z.1 = none ∧ e = .returned (.tuple #[.pointer none, .int .i64 Z.2]) ∧ Sat w0 w' L) ∨ ∃ M p, Z.1 = some M ∧ e = .returned (.tuple #[.pointer (some ⟨p, 0, none⟩), .int .i64 Z.2]) ∧ Sat w0 w' (MR p M :: L)


theorem restoreMc_spec {w0 w : World} {L : List HP} {A : Option Addr} {c : Nat} (sp : Int) (b : List UInt8) (hb : b.length ≤ 4294967296) (hs : Sat w0 w L) (hR : Rd w0 L A b.length 1 (B8 b)) :
    Calls Try.prog 30 #[.int .i64 sp, .slice A b.length c] w (RetRes w0 L (Mc.restore sp b)) := by
  by_cases hsp : 1 ≤ sp ∧ sp ≤ 1099511627776
  · obtain ⟨⟨ap, e1, l1⟩, x1⟩ : ∃ z, rdNumber 0 b = z := ⟨_, rfl⟩
    obtain ⟨⟨st, e2, l2⟩, x2⟩ : ∃ z, rdNumber e1 l1 = z := ⟨_, rfl⟩
    obtain ⟨⟨nx, e3, l3⟩, x3⟩ : ∃ z, rdNumber e2 l2 = z := ⟨_, rfl⟩
    obtain ⟨⟨n, e4, l4⟩, x4⟩ : ∃ z, rdNumber e3 l3 = z := ⟨_, rfl⟩
    have y1 := rdNumber_ok x1
    have y2 := rdNumber_ok x2
    have y3 := rdNumber_ok x3
    have y4 := rdNumber_ok x4
    have hrs : rs4 0 b = ((ap, st, nx, n), e4, l4) := by simp only [rs4, x1, x2, x3, x4]
    obtain ⟨Z, hZ⟩ : ∃ z, Mc.restore sp b = z := ⟨_, rfl⟩
    have hZ2 : Z = if hdOk (ap, st, nx, n) then rsFin1 sp ap st nx (rsSes ap nx n.toNat 0 [] e4 l4) else (none, 21) := by
      rw [← hZ]; unfold Mc.restore; rw [if_neg (by omega), hrs]
    rw [hZ]
    clear hZ hrs
    obtain ⟨N, rfl⟩ : ∃ N : Nat, n = (N : Int) := ⟨n.toNat, by omega⟩
    rw [Int.toNat_natCast] at hZ2
    have HZ := Hid.mk' hZ2
    have c1 := fun (w : World) (L' : List HP) (buf : HP) (p : Nat) (hs : Sat w0 w (Rd1 buf p 0 b :: buf :: L')) => number_read 0 b (by omega) hs
    have c2 := fun (w : World) (L' : List HP) (buf : HP) (p : Nat) (hs : Sat w0 w (Rd1 buf p e1 l1 :: buf :: L')) => number_read e1 l1 (by omega) hs
    have c3 := fun (w : World) (L' : List HP) (buf : HP) (p : Nat) (hs : Sat w0 w (Rd1 buf p e2 l2 :: buf :: L')) => number_read e2 l2 (by omega) hs
    have c4 := fun (w : World) (L' : List HP) (buf : HP) (p : Nat) (hs : Sat w0 w (Rd1 buf p e3 l3 :: buf :: L')) => number_read e3 l3 (by omega) hs
    rw [x1] at c1
    rw [x2] at c2
    rw [x3] at c3
    rw [x4] at c4
    have hl4 : l4.length ≤ 4294967296 := by omega
    obtain ⟨hap, hap2⟩ : 0 ≤ ap ∧ ap < 281474976710656 := by omega
    obtain ⟨hst, hst2⟩ : 0 ≤ st ∧ st < 281474976710656 := by omega
    obtain ⟨hnx, hnx2⟩ : 0 ≤ nx ∧ nx < 281474976710656 := by omega
    have hN : (N : Int) < 281474976710656 := by omega
    obtain ⟨ok0, hok0⟩ : ∃ o, decide (hdOk (ap, st, nx, (N : Int))) = o := ⟨_, rfl⟩
    have HO : Hid (decide (ap < 1099511627776 ∧ st ≤ nx ∧ nx < 1099511627776 ∧ (N : Int) ≤ 16) = ok0) := by unfold Hid; rw [← hok0]; rfl
    have HZt : Hid (ok0 = true → nx < 1099511627776 ∧ Z = rsFin1 sp ap st nx (rsSes ap nx N 0 [] e4 l4)) := by
      unfold Hid; intro h; rw [h] at hok0; have h5 := of_decide_eq_true hok0; exact ⟨h5.2.2.1, by rw [HZ.out, if_pos h5]⟩
    have HZf : Hid (ok0 = false → Z = (none, 21)) := by
      unfold Hid; intro h; rw [HZ.out, if_neg (by rw [h] at hok0; exact of_decide_eq_false hok0)]
    clear hZ2 HZ hok0 x1 x2 x3 x4 y1 y2 y3 y4
    go_enter Try.func30, Try.ntmps30
    refine wk_seq (fun K0 hK0 => ?_)
    refine wk_reg ?_
    iterate 2 (refine pl_take (v := ?_) rfl ?_ ?_; rotate_left; (· (go_simp; first | done | with_reducible rfl | rfl | omega | assumption | (simp; omega))); (try simp only [Act.put, aP, aZ, aS]))
    refine pl_done ?_
    refine hK0.out _ _ ?_
    (try clear hK0 K0)
    refine wk_seq (fun K1 hK1 => ?_)
    refine wk_reg ?_
    refine pl_take (v := ?_) rfl ?_ ?_
    rotate_left
    · (go_simp; first | done | with_reducible rfl | rfl | omega | assumption | (simp; omega))
    (try simp only [Act.put, aP, aZ, aS])
    refine pl_eff rfl (fun Kp hKp => ?_)
    go_simp
    (refine (newM_spec sp hsp (by assumption)).mono ?_; rintro e20 w20 ⟨p, rfl, hs20⟩)
    (try go_wp2_with fail)
    refine hKp.out _ _ ?_
    clear hKp Kp
    (try simp only [Act.put, aP, aZ, aS])
    iterate 5 (refine pl_take (v := ?_) rfl ?_ ?_; rotate_left; (· (go_simp; first | done | with_reducible rfl | rfl | omega | assumption | (simp; omega))); (try simp only [Act.put, aP, aZ, aS]))
    refine pl_done ?_
    refine hK1.out _ _ ?_
    (try clear hK1 K1)
    refine wk_seq (fun K2 hK2 => ?_)
    refine wk_seq (fun K3 hK3 => ?_)
    refine wk_reg ?_
    refine pl_take (v := ?_) rfl ?_ ?_
    rotate_left
    · (go_simp; first | done | with_reducible rfl | rfl | omega | assumption | (simp; omega))
    (try simp only [Act.put, aP, aZ, aS])
    refine pl_take (v := .bool false) rfl ?_ ?_
    · (go_simp; first | done | with_reducible rfl | rfl | omega | assumption | (simp; omega))
    (try simp only [Act.put, aP, aZ, aS])
    refine pl_done ?_
    refine hK3.out _ _ ?_
    (try clear hK3 K3)
    refine wp_cond_false rfl ?_
    refine wp_skip ?_
    refine hK2.out _ _ ?_
    (try clear hK2 K2)
    refine wk_seq (fun K5 hK5 => ?_)
    refine wk_reg ?_
    refine pl_take (v := ?_) rfl ?_ ?_
    rotate_left
    · (go_simp; first | done | with_reducible rfl | rfl | omega | assumption | (simp; omega))
    (try simp only [Act.put, aP, aZ, aS])
    refine pl_eff rfl (fun Kp hKp => ?_)
    go_simp
    (refine (new_spec b (by omega) (by assumption) (by (repeat (first | with_reducible assumption | with_reducible exact Rd.own | with_reducible exact Rd.nil | with_reducible apply Rd.cons)))).mono ?_; rintro e27 w27 ⟨q, buf, rfl, hs27⟩)
    (obtain ⟨X, cx, bm, ys0, bs0, hys0, hbs0, hsO⟩ := MR.opened ((by assumption : Sat w0 _ (Rd1 _ _ _ _ :: _)).pick (T := MR p (Mc.new sp) :: Rd1 buf q 0 b :: buf :: L) (by (repeat (first | exact Pick.nil _ | exact Pick.tail _ | exact Out.here _ | apply Out.there | apply Pick.cons | apply Pick.drop)))); obtain rfl : ys0 = [] := List.map_eq_nil_iff.1 hys0; obtain rfl : bs0 = [] := List.map_eq_nil_iff.1 hbs0; clear hys0 hbs0; simp only [Mc.new, mcBlk, recCells, recData, seMap, seBlks, List.map_nil, List.length_nil] at hsO)
    (try go_wp2_with fail)
    refine hKp.out _ _ ?_
    clear hKp Kp
    (try simp only [Act.put, aP, aZ, aS])
    refine pl_take (v := ?_) rfl ?_ ?_
    rotate_left
    · (go_simp; first | done | with_reducible rfl | rfl | omega | assumption | (simp; omega))
    (try simp only [Act.put, aP, aZ, aS])
    refine pl_done ?_
    refine hK5.out _ _ ?_
    (try clear hK5 K5)
    refine wk_seq (fun K6 hK6 => ?_)
    refine wk_reg ?_
    iterate 2 (refine pl_take (v := ?_) rfl ?_ ?_; rotate_left; (· (go_simp; first | done | with_reducible rfl | rfl | omega | assumption | (simp; omega))); (try simp only [Act.put, aP, aZ, aS]))
    refine pl_done ?_
    refine hK6.out _ _ ?_
    (try clear hK6 K6)
    refine wk_seq (fun K7 hK7 => ?_)
    refine wk_reg ?_
    iterate 3 (refine pl_take (v := ?_) rfl ?_ ?_; rotate_left; (· (go_simp; first | done | with_reducible rfl | rfl | omega | assumption | (simp; omega))); (try simp only [Act.put, aP, aZ, aS]))
    refine pl_eff rfl (fun Kp hKp => ?_)
    go_simp
    (refine (c1 _ _ _ _ ((by assumption : Sat w0 _ _).pick (.cons (by (repeat (first | with_reducible exact Out.here _ | apply Out.there))) (.cons (by (repeat (first | with_reducible exact Out.here _ | apply Out.there))) (.tail _))))).mono ?_; rintro e31 w31 ⟨rfl, hs31⟩; simp only at hs31 ⊢)
    (try go_wp2_with fail)
    refine hKp.out _ _ ?_
    clear hKp Kp
    (try simp only [Act.put, aP, aZ, aS])
    refine pl_take (v := ?_) rfl ?_ ?_
    rotate_left
    · (go_simp; first | done | with_reducible rfl | rfl | omega | assumption | (simp; omega))
    (try simp only [Act.put, aP, aZ, aS])
    refine pl_eff rfl (fun Kp hKp => ?_)
    go_simp
    (refine (c2 _ _ _ _ ((by assumption : Sat w0 _ _).pick (.cons (by (repeat (first | with_reducible exact Out.here _ | apply Out.there))) (.cons (by (repeat (first | with_reducible exact Out.here _ | apply Out.there))) (.tail _))))).mono ?_; rintro e33 w33 ⟨rfl, hs33⟩; simp only at hs33 ⊢)
    (try go_wp2_with fail)
    refine hKp.out _ _ ?_
    clear hKp Kp
    (try simp only [Act.put, aP, aZ, aS])
    refine pl_take (v := ?_) rfl ?_ ?_
    rotate_left
    · (go_simp; first | done | with_reducible rfl | rfl | omega | assumption | (simp; omega))
    (try simp only [Act.put, aP, aZ, aS])
    refine pl_eff rfl (fun Kp hKp => ?_)
    go_simp
    (refine (c3 _ _ _ _ ((by assumption : Sat w0 _ _).pick (.cons (by (repeat (first | with_reducible exact Out.here _ | apply Out.there))) (.cons (by (repeat (first | with_reducible exact Out.here _ | apply Out.there))) (.tail _))))).mono ?_; rintro e35 w35 ⟨rfl, hs35⟩; simp only at hs35 ⊢)
    (try go_wp2_with fail)
    refine hKp.out _ _ ?_
    clear hKp Kp
    (try simp only [Act.put, aP, aZ, aS])
    refine pl_take (v := ?_) rfl ?_ ?_
    rotate_left
    · (go_simp; first | done | with_reducible rfl | rfl | omega | assumption | (simp; omega))
    (try simp only [Act.put, aP, aZ, aS])
    refine pl_eff rfl (fun Kp hKp => ?_)
    go_simp
    (refine (c4 _ _ _ _ ((by assumption : Sat w0 _ _).pick (.cons (by (repeat (first | with_reducible exact Out.here _ | apply Out.there))) (.cons (by (repeat (first | with_reducible exact Out.here _ | apply Out.there))) (.tail _))))).mono ?_; rintro e37 w37 ⟨rfl, hs37⟩; simp only at hs37 ⊢)
    (try go_wp2_with fail)
    refine hKp.out _ _ ?_
    clear hKp Kp
    (try simp only [Act.put, aP, aZ, aS])
    iterate 2 (refine pl_take (v := ?_) rfl ?_ ?_; rotate_left; (· (go_simp; first | done | with_reducible rfl | rfl | omega | assumption | (simp; omega))); (try simp only [Act.put, aP, aZ, aS]))
    refine pl_eff rfl (fun Kp hKp => ?_)
    (first | ((with_reducible apply st_store1); assumption; rfl; (go_simp; rfl); (repeat (first | with_reducible exact Out.here _ | apply Out.there)); rfl; rfl; simp; intro wr6_12 hsr6_12; (try simp only [aP] at hsr6_12); (try simp only [aS] at hsr6_12); (try simp only [aZ] at hsr6_12)) | ((with_reducible apply st_store_own); assumption; rfl; (go_simp; rfl); (repeat (first | with_reducible exact Out.here _ | apply Out.there)); rfl; rfl; omega; intro wr6_12 hsr6_12))
    refine hKp.out _ _ ?_
    clear hKp Kp
    (try dsimp only [Act.put])
    iterate 2 (refine pl_take (v := ?_) rfl ?_ ?_; rotate_left; (· (go_simp; first | done | with_reducible rfl | rfl | omega | assumption | (simp; omega))); (try simp only [Act.put, aP, aZ, aS]))
    refine pl_eff rfl (fun Kp hKp => ?_)
    (first | ((with_reducible apply st_store1); assumption; rfl; (go_simp; rfl); (repeat (first | with_reducible exact Out.here _ | apply Out.there)); rfl; rfl; simp; intro wr6_15 hsr6_15; (try simp only [aP] at hsr6_15); (try simp only [aS] at hsr6_15); (try simp only [aZ] at hsr6_15)) | ((with_reducible apply st_store_own); assumption; rfl; (go_simp; rfl); (repeat (first | with_reducible exact Out.here _ | apply Out.there)); rfl; rfl; omega; intro wr6_15 hsr6_15))
    refine hKp.out _ _ ?_
    clear hKp Kp
    (try dsimp only [Act.put])
    iterate 2 (refine pl_take (v := ?_) rfl ?_ ?_; rotate_left; (· (go_simp; first | done | with_reducible rfl | rfl | omega | assumption | (simp; omega))); (try simp only [Act.put, aP, aZ, aS]))
    refine pl_done ?_
    refine hK7.out _ _ ?_
    (try clear hK7 K7)
    refine wk_seq (fun K8 hK8 => ?_)
    -- at a cut
    go_cut [11] from 42 to 62 (fun s11 w => s11 = .bool ok0 ∧ Sat w0 w (Rd1 buf q e4 l4 :: buf :: blk p (.cells #[.int .i64 sp, .int .i64 ap, .int .i64 st, .slice X 0 cx, .map (some bm)] 74 (0, 0)) :: own 33 1 X cx 0 [] :: DV [] :: mp (Value.int .i64) In64 bm [] :: SatH [] :: L))
    case first =>
      refine wk_reg ?_
      iterate 4 (refine pl_take (v := ?_) rfl ?_ ?_; rotate_left; (· (first | ((with_reducible apply yl_load); assumption; rfl; (repeat (first | with_reducible assumption | ((with_reducible apply Cl.own); exact rfl) | ((with_reducible apply Cl.blkL); exact rfl) | with_reducible apply Cl.cons)); rfl) | (go_simp; first | done | with_reducible rfl | rfl | omega | assumption | (simp; omega)))); (try simp only [Act.put, aP, aZ, aS]))
      by_cases k1 : ap < 1099511627776
      · refine pl_take (v := .bool true) rfl ?_ ?_
        · (go_simp; first | done | with_reducible rfl | rfl | omega | assumption | (simp; omega))
        (try simp only [Act.put, aP, aZ, aS])
        refine pl_take (v := .bool true) rfl ?_ ?_
        · (go_simp; first | done | with_reducible rfl | rfl | omega | assumption | (simp; omega))
        (try simp only [Act.put, aP, aZ, aS])
        iterate 5 (refine pl_take (v := ?_) (by kernel_rfl) ?_ ?_; rotate_left; (· (first | ((with_reducible apply yl_load); assumption; rfl; (repeat (first | with_reducible assumption | ((with_reducible apply Cl.own); exact rfl) | ((with_reducible apply Cl.blkL); exact rfl) | with_reducible apply Cl.cons)); rfl) | (go_simp; first | done | with_reducible rfl | rfl | omega | assumption | (simp; omega)))); (try simp only [Act.put, aP, aZ, aS]))
        by_cases k2 : st ≤ nx
        · refine pl_take (v := .bool true) (by kernel_rfl) ?_ ?_
          · (go_simp; first | done | with_reducible rfl | rfl | omega | assumption | (simp; omega))
          (try simp only [Act.put, aP, aZ, aS])
          iterate 2 (refine pl_take (v := .bool true) rfl ?_ ?_; (· (go_simp; first | done | with_reducible rfl | rfl | omega | assumption | (simp; omega))); (try simp only [Act.put, aP, aZ, aS]))
          refine pl_take (v := ?_) (by kernel_rfl) ?_ ?_
          rotate_left
          · (go_simp; first | done | with_reducible rfl | rfl | omega | assumption | (simp; omega))
          (try simp only [Act.put, aP, aZ, aS])
          by_cases k3 : nx < 1099511627776
          · refine pl_take (v := .bool true) (by kernel_rfl) ?_ ?_
            · (go_simp; first | done | with_reducible rfl | rfl | omega | assumption | (simp; omega))
            (try simp only [Act.put, aP, aZ, aS])
            iterate 2 (refine pl_take (v := .bool true) rfl ?_ ?_; (· (go_simp; first | done | with_reducible rfl | rfl | omega | assumption | (simp; omega))); (try simp only [Act.put, aP, aZ, aS]))
            refine pl_take (v := ?_) (by kernel_rfl) ?_ ?_
            rotate_left
            · (go_simp; first | done | with_reducible rfl | rfl | omega | assumption | (simp; omega))
            (try simp only [Act.put, aP, aZ, aS])
            by_cases k4 : (N : Int) ≤ 16
            · refine pl_take (v := .bool true) (by kernel_rfl) ?_ ?_
              · (go_simp; first | done | with_reducible rfl | rfl | omega | assumption | (simp; omega))
              (try simp only [Act.put, aP, aZ, aS])
              iterate 2 (refine pl_take (v := .bool true) rfl ?_ ?_; (· (go_simp; first | done | with_reducible rfl | rfl | omega | assumption | (simp; omega))); (try simp only [Act.put, aP, aZ, aS]))
              refine pl_done ?_
              refine (by assumption : ∀ a' w', Met _ a' w' → _) _ _ ?_
              go_meet
              case rel => exact ⟨congrArg Value.bool (by rw [← HO.out]; first | exact (decide_eq_true (by omega)).symm | exact (decide_eq_false (by omega)).symm), (by assumption : Sat w0 _ _).pick (by (repeat (first | exact Pick.nil _ | exact Pick.tail _ | exact Out.here _ | apply Out.there | apply Pick.cons | apply Pick.drop)))⟩
            · refine pl_take (v := .bool false) (by kernel_rfl) ?_ ?_
              · (go_simp; first | done | with_reducible rfl | rfl | omega | assumption | (simp; omega))
              (try simp only [Act.put, aP, aZ, aS])
              iterate 2 (refine pl_take (v := .bool false) rfl ?_ ?_; (· (go_simp; first | done | with_reducible rfl | rfl | omega | assumption | (simp; omega))); (try simp only [Act.put, aP, aZ, aS]))
              refine pl_done ?_
              refine (by assumption : ∀ a' w', Met _ a' w' → _) _ _ ?_
              go_meet
              case rel => exact ⟨congrArg Value.bool (by rw [← HO.out]; first | exact (decide_eq_true (by omega)).symm | exact (decide_eq_false (by omega)).symm), (by assumption : Sat w0 _ _).pick (by (repeat (first | exact Pick.nil _ | exact Pick.tail _ | exact Out.here _ | apply Out.there | apply Pick.cons | apply Pick.drop)))⟩
          · refine pl_take (v := .bool false) (by kernel_rfl) ?_ ?_
            · (go_simp; first | done | with_reducible rfl | rfl | omega | assumption | (simp; omega))
            (try simp only [Act.put, aP, aZ, aS])
            iterate 2 (refine pl_take (v := .bool false) rfl ?_ ?_; (· (go_simp; first | done | with_reducible rfl | rfl | omega | assumption | (simp; omega))); (try simp only [Act.put, aP, aZ, aS]))
            iterate 2 (refine pl_skip (by kernel_rfl) ?_; (try simp only [Act.put, aP, aZ, aS]))
            iterate 2 (refine pl_take (v := .bool false) rfl ?_ ?_; (· (go_simp; first | done | with_reducible rfl | rfl | omega | assumption | (simp; omega))); (try simp only [Act.put, aP, aZ, aS]))
            refine pl_done ?_
            refine (by assumption : ∀ a' w', Met _ a' w' → _) _ _ ?_
            go_meet
            case rel => exact ⟨congrArg Value.bool (by rw [← HO.out]; first | exact (decide_eq_true (by omega)).symm | exact (decide_eq_false (by omega)).symm), (by assumption : Sat w0 _ _).pick (by (repeat (first | exact Pick.nil _ | exact Pick.tail _ | exact Out.here _ | apply Out.there | apply Pick.cons | apply Pick.drop)))⟩
        · refine pl_take (v := .bool false) (by kernel_rfl) ?_ ?_
          · (go_simp; first | done | with_reducible rfl | rfl | omega | assumption | (simp; omega))
          (try simp only [Act.put, aP, aZ, aS])
          iterate 2 (refine pl_take (v := .bool false) rfl ?_ ?_; (· (go_simp; first | done | with_reducible rfl | rfl | omega | assumption | (simp; omega))); (try simp only [Act.put, aP, aZ, aS]))
          iterate 2 (refine pl_skip (by kernel_rfl) ?_; (try simp only [Act.put, aP, aZ, aS]))
          iterate 2 (refine pl_take (v := .bool false) rfl ?_ ?_; (· (go_simp; first | done | with_reducible rfl | rfl | omega | assumption | (simp; omega))); (try simp only [Act.put, aP, aZ, aS]))
          iterate 2 (refine pl_skip (by kernel_rfl) ?_; (try simp only [Act.put, aP, aZ, aS]))
          iterate 2 (refine pl_take (v := .bool false) rfl ?_ ?_; (· (go_simp; first | done | with_reducible rfl | rfl | omega | assumption | (simp; omega))); (try simp only [Act.put, aP, aZ, aS]))
          refine pl_done ?_
          refine (by assumption : ∀ a' w', Met _ a' w' → _) _ _ ?_
          go_meet
          case rel => exact ⟨congrArg Value.bool (by rw [← HO.out]; first | exact (decide_eq_true (by omega)).symm | exact (decide_eq_false (by omega)).symm), (by assumption : Sat w0 _ _).pick (by (repeat (first | exact Pick.nil _ | exact Pick.tail _ | exact Out.here _ | apply Out.there | apply Pick.cons | apply Pick.drop)))⟩
      · refine pl_take (v := .bool false) rfl ?_ ?_
        · (go_simp; first | done | with_reducible rfl | rfl | omega | assumption | (simp; omega))
        (try simp only [Act.put, aP, aZ, aS])
        refine pl_take (v := .bool false) rfl ?_ ?_
        · (go_simp; first | done | with_reducible rfl | rfl | omega | assumption | (simp; omega))
        (try simp only [Act.put, aP, aZ, aS])
        iterate 6 (refine pl_skip (by kernel_rfl) ?_; (try simp only [Act.put, aP, aZ, aS]))
        iterate 2 (refine pl_take (v := .bool false) rfl ?_ ?_; (· (go_simp; first | done | with_reducible rfl | rfl | omega | assumption | (simp; omega))); (try simp only [Act.put, aP, aZ, aS]))
        iterate 2 (refine pl_skip (by kernel_rfl) ?_; (try simp only [Act.put, aP, aZ, aS]))
        iterate 2 (refine pl_take (v := .bool false) rfl ?_ ?_; (· (go_simp; first | done | with_reducible rfl | rfl | omega | assumption | (simp; omega))); (try simp only [Act.put, aP, aZ, aS]))
        iterate 2 (refine pl_skip (by kernel_rfl) ?_; (try simp only [Act.put, aP, aZ, aS]))
        iterate 2 (refine pl_take (v := .bool false) rfl ?_ ?_; (· (go_simp; first | done | with_reducible rfl | rfl | omega | assumption | (simp; omega))); (try simp only [Act.put, aP, aZ, aS]))
        refine pl_done ?_
        refine (by assumption : ∀ a' w', Met _ a' w' → _) _ _ ?_
        go_meet
        case rel => exact ⟨congrArg Value.bool (by rw [← HO.out]; first | exact (decide_eq_true (by omega)).symm | exact (decide_eq_false (by omega)).symm), (by assumption : Sat w0 _ _).pick (by (repeat (first | exact Pick.nil _ | exact Pick.tail _ | exact Out.here _ | apply Out.there | apply Pick.cons | apply Pick.drop)))⟩
    case rest =>
      obtain ⟨rfl, hsA⟩ := hcut
      clear c1 c2 c3 c4 HO
      refine hK8.out _ _ ?_
      clear hK8 K8
      refine wk_seq (fun K9 hK9 => ?_)
      refine wk_reg ?_
      refine pl_take (v := ?_) rfl ?_ ?_
      rotate_left
      · (go_simp; first | done | with_reducible rfl | rfl | omega | assumption | (simp; omega))
      (try simp only [Act.put, aP, aZ, aS])
      refine pl_done ?_
      refine hK9.out _ _ ?_
      (try clear hK9 K9)
      refine wk_seq (fun K10 hK10 => ?_)
      -- at a cut
      go_cut [11] from 12 to 141 (fun s11 w => ∃ (ok : Bool) (e : Int) (l : List UInt8) (lm : List (Int × Value)) (Bag : List HP) (bs : List SesRow), s11 = .bool ok ∧ l.length ≤ 4294967296 ∧ Hid (ok = true → nx < 1099511627776 ∧ lm = seMap bs ∧ Bag = seBlks bs ∧ Z = rsFin sp ap st (seStrip bs) (rsRec (nx - st).toNat [] e l)) ∧ Hid (ok = false → Z = (none, 21)) ∧ Sat w0 w (Rd1 buf q e l :: buf :: blk p (.cells #[.int .i64 sp, .int .i64 ap, .int .i64 st, .slice X 0 cx, .map (some bm)] 74 (0, 0)) :: own 33 1 X cx 0 [] :: DV [] :: mp (Value.int .i64) In64 bm lm :: SatH Bag :: L))
      case first =>
        refine wk_seq (fun K11 hK11 => ?_)
        refine wk_reg ?_
        refine pl_take (v := ?_) rfl ?_ ?_
        rotate_left
        · (go_simp; first | done | with_reducible rfl | rfl | omega | assumption | (simp; omega))
        (try simp only [Act.put, aP, aZ, aS])
        refine pl_done ?_
        refine hK11.out _ _ ?_
        (try clear hK11 K11)
        refine wp_block ?_
        -- at a loop
        go_loopg [11, 12, 13] N (fun g s11 s12 s13 wr => ∃ (i : Nat) (was : Int) (ok : Bool) (e : Int) (l : List UInt8) (lm : List (Int × Value)) (Bag : List HP) (bs : List SesRow), s11 = .bool ok ∧ s12 = .int .i64 was ∧ s13 = .int .i64 i ∧ i ≤ N ∧ N - i ≤ g ∧ l.length ≤ 4294967296 ∧ 0 ≤ was ∧ was < 281474976710656 ∧ Hid (ok = true → nx < 1099511627776 ∧ lm = seMap bs ∧ Bag = seBlks bs ∧ (∀ x ∈ bs, x.1 ≤ was) ∧ Z = rsFin1 sp ap st nx (rsSes ap nx (N - i) was (seStrip bs) e l)) ∧ Hid (ok = false → Z = (none, 21)) ∧ Sat w0 wr (Rd1 buf q e l :: buf :: blk p (.cells #[.int .i64 sp, .int .i64 ap, .int .i64 st, .slice X 0 cx, .map (some bm)] 74 (0, 0)) :: own 33 1 X cx 0 [] :: DV [] :: mp (Value.int .i64) In64 bm lm :: SatH Bag :: L))
        case atStart => exact ⟨0, 0, ok0, e4, l4, [], [], [], rfl, rfl, rfl, Nat.zero_le _, Nat.le_refl _, hl4, by omega, by omega, Hid.mk' (fun h => ⟨(HZt.out h).1, rfl, rfl, by simp, by have := (HZt.out h).2; simpa [seStrip] using this⟩), HZf, hsA.pick (by (repeat (first | exact Pick.nil _ | exact Pick.tail _ | exact Out.here _ | apply Out.there | apply Pick.cons | apply Pick.drop)))⟩
        case round =>
          obtain ⟨i, was, ok, e, l, lm, Bag, bs, rfl, rfl, rfl, hi, hg, hll, hw0, hw1, Ht, Hf, hsC⟩ := hrel
          clear hsA HZt HZf hl4
          have i0 : (0 : Int) ≤ (i : Int) := by omega
          by_cases hlt : i < N
          · have i1 : (i : Int) < (N : Int) := by omega
            cases ok with
            | true =>
              obtain ⟨hnx3, rfl, rfl, hle, hZ⟩ := Ht.out rfl
              clear Ht Hf
              obtain ⟨⟨id, e1', l1'⟩, x1⟩ : ∃ z, rdNumber e l = z := ⟨_, rfl⟩
              obtain ⟨⟨sq, e2', l2'⟩, x2⟩ : ∃ z, rdNumber e1' l1' = z := ⟨_, rfl⟩
              obtain ⟨⟨sn, e3', l3'⟩, x3⟩ : ∃ z, rdNumber e2' l2' = z := ⟨_, rfl⟩
              obtain ⟨⟨sti, e4', l4'⟩, x4⟩ : ∃ z, rdNumber e3' l3' = z := ⟨_, rfl⟩
              have y1 := rdNumber_ok x1
              have y2 := rdNumber_ok x2
              have y3 := rdNumber_ok x3
              have y4 := rdNumber_ok x4
              have hrs : rs4 e l = ((id, sq, sn, sti), e4', l4') := by simp only [rs4, x1, x2, x3, x4]
              have c1 := fun (w : World) (L' : List HP) (buf : HP) (p : Nat) (hs : Sat w0 w (Rd1 buf p e l :: buf :: L')) => number_read e l (by omega) hs
              have c2 := fun (w : World) (L' : List HP) (buf : HP) (p : Nat) (hs : Sat w0 w (Rd1 buf p e1' l1' :: buf :: L')) => number_read e1' l1' (by omega) hs
              have c3 := fun (w : World) (L' : List HP) (buf : HP) (p : Nat) (hs : Sat w0 w (Rd1 buf p e2' l2' :: buf :: L')) => number_read e2' l2' (by omega) hs
              have c4 := fun (w : World) (L' : List HP) (buf : HP) (p : Nat) (hs : Sat w0 w (Rd1 buf p e3' l3' :: buf :: L')) => number_read e3' l3' (by omega) hs
              rw [x1] at c1
              rw [x2] at c2
              rw [x3] at c3
              rw [x4] at c4
              obtain ⟨hid0, hid1⟩ : 0 ≤ id ∧ id < 281474976710656 := by omega
              obtain ⟨hq0, hq1⟩ : 0 ≤ sq ∧ sq < 281474976710656 := by omega
              obtain ⟨hn0, hn1⟩ : 0 ≤ sn ∧ sn < 281474976710656 := by omega
              obtain ⟨ht0, ht1⟩ : 0 ≤ sti ∧ sti < 281474976710656 := by omega
              have hl' : l4'.length ≤ 4294967296 := by omega
              obtain ⟨ok1, hok1⟩ : ∃ o, decide (sesOk ap nx was (id, sq, sn, sti)) = o := ⟨_, rfl⟩
              have HO : Hid (decide (was < id ∧ id ≤ ap ∧ sq < 1099511627776 ∧ (sn < nx ∨ sn = 0) ∧ id ≤ sti ∧ sti ≤ ap) = ok1) := by unfold Hid; rw [← hok1]; rfl
              have Ht2 : Hid (ok1 = true → (∀ x ∈ bs, x.1 < id) ∧ ∀ b0, Z = rsFin1 sp ap st nx (rsSes ap nx (N - (i + 1)) id (seStrip (bs ++ [(id, b0, ⟨sq, sn, sti⟩)])) e4' l4')) := by
                unfold Hid
                intro h
                rw [h] at hok1
                have hok := of_decide_eq_true hok1
                refine ⟨fun x hx => by have := hle x hx; have := hok.1; simp only at this; omega, fun b0 => ?_⟩
                rw [hZ, show N - i = (N - (i + 1)) + 1 from by omega]
                simp only [rsSes, hrs]
                rw [if_pos hok]
                simp [seStrip, sesOf]
              have Hf2 : Hid (ok1 = false → Z = (none, 21)) := by
                unfold Hid
                intro h
                rw [h] at hok1
                have hok := of_decide_eq_false hok1
                rw [hZ, show N - i = (N - (i + 1)) + 1 from by omega]
                simp only [rsSes, hrs]
                rw [if_neg hok]; rfl
              have hwk : IntKind.i64.wrap ((i : Int) + 1) = (i : Int) + 1 := IntWalk.i64_in _ (by omega)
              have hin : In64 id := by unfold In64; omega
              clear x1 x2 x3 x4 y1 y2 y3 y4 hrs hok1 hZ hle hll
              refine wk_seq (fun K12 hK12 => ?_)
              refine wk_seq (fun K13 hK13 => ?_)
              refine wk_reg ?_
              iterate 2 (refine pl_take (v := ?_) rfl ?_ ?_; rotate_left; (· (go_simp; first | done | with_reducible rfl | rfl | omega | assumption | (simp; omega))); (try simp only [Act.put, aP, aZ, aS]))
              iterate 2 (refine pl_take (v := .bool true) rfl ?_ ?_; (· (go_simp; first | done | with_reducible rfl | rfl | omega | assumption | (simp; omega))); (try simp only [Act.put, aP, aZ, aS]))
              refine pl_take (v := .bool true) (by kernel_rfl) ?_ ?_
              · (go_simp; first | done | with_reducible rfl | rfl | omega | assumption | (simp; omega))
              (try simp only [Act.put, aP, aZ, aS])
              refine pl_take (v := .bool true) rfl ?_ ?_
              · (go_simp; first | done | with_reducible rfl | rfl | omega | assumption | (simp; omega))
              (try simp only [Act.put, aP, aZ, aS])
              refine pl_done ?_
              refine hK13.out _ _ ?_
              (try clear hK13 K13)
              refine wp_cond_true rfl ?_
              refine wp_skip ?_
              refine hK12.out _ _ ?_
              (try clear hK12 K12)
              refine wk_seq (fun K14 hK14 => ?_)
              refine wp_block ?_
              refine wk_seq (fun K15 hK15 => ?_)
              refine wk_reg ?_
              refine pl_take (v := ?_) rfl ?_ ?_
              rotate_left
              · (go_simp; first | done | with_reducible rfl | rfl | omega | assumption | (simp; omega))
              (try simp only [Act.put, aP, aZ, aS])
              refine pl_eff rfl (fun Kp hKp => ?_)
              go_simp
              (refine (c1 _ _ _ _ ((by assumption : Sat w0 _ _).pick (.cons (by (repeat (first | with_reducible exact Out.here _ | apply Out.there))) (.cons (by (repeat (first | with_reducible exact Out.here _ | apply Out.there))) (.tail _))))).mono ?_; rintro e72 w72 ⟨rfl, hs72⟩; simp only at hs72 ⊢)
              (try go_wp2_with fail)
              refine hKp.out _ _ ?_
              clear hKp Kp
              (try simp only [Act.put, aP, aZ, aS])
              refine pl_take (v := ?_) rfl ?_ ?_
              rotate_left
              · (go_simp; first | done | with_reducible rfl | rfl | omega | assumption | (simp; omega))
              (try simp only [Act.put, aP, aZ, aS])
              refine pl_done ?_
              refine hK15.out _ _ ?_
              (try clear hK15 K15)
              refine wk_seq (fun K16 hK16 => ?_)
              refine wk_reg ?_
              refine pl_take (v := ?_) rfl ?_ ?_
              rotate_left
              · (go_simp; first | done | with_reducible rfl | rfl | omega | assumption | (simp; omega))
              (try simp only [Act.put, aP, aZ, aS])
              refine pl_eff rfl (fun Kp hKp => ?_)
              go_simp
              (refine (c2 _ _ _ _ ((by assumption : Sat w0 _ _).pick (.cons (by (repeat (first | with_reducible exact Out.here _ | apply Out.there))) (.cons (by (repeat (first | with_reducible exact Out.here _ | apply Out.there))) (.tail _))))).mono ?_; rintro e74 w74 ⟨rfl, hs74⟩; simp only at hs74 ⊢)
              (try go_wp2_with fail)
              refine hKp.out _ _ ?_
              clear hKp Kp
              (try simp only [Act.put, aP, aZ, aS])
              refine pl_take (v := ?_) rfl ?_ ?_
              rotate_left
              · (go_simp; first | done | with_reducible rfl | rfl | omega | assumption | (simp; omega))
              (try simp only [Act.put, aP, aZ, aS])
              refine pl_eff rfl (fun Kp hKp => ?_)
              go_simp
              (refine (c3 _ _ _ _ ((by assumption : Sat w0 _ _).pick (.cons (by (repeat (first | with_reducible exact Out.here _ | apply Out.there))) (.cons (by (repeat (first | with_reducible exact Out.here _ | apply Out.there))) (.tail _))))).mono ?_; rintro e76 w76 ⟨rfl, hs76⟩; simp only at hs76 ⊢)
              (try go_wp2_with fail)
              refine hKp.out _ _ ?_
              clear hKp Kp
              (try simp only [Act.put, aP, aZ, aS])
              refine pl_take (v := ?_) rfl ?_ ?_
              rotate_left
              · (go_simp; first | done | with_reducible rfl | rfl | omega | assumption | (simp; omega))
              (try simp only [Act.put, aP, aZ, aS])
              refine pl_eff rfl (fun Kp hKp => ?_)
              go_simp
              (refine (c4 _ _ _ _ ((by assumption : Sat w0 _ _).pick (.cons (by (repeat (first | with_reducible exact Out.here _ | apply Out.there))) (.cons (by (repeat (first | with_reducible exact Out.here _ | apply Out.there))) (.tail _))))).mono ?_; rintro e78 w78 ⟨rfl, hs78⟩; simp only at hs78 ⊢)
              (try go_wp2_with fail)
              refine hKp.out _ _ ?_
              clear hKp Kp
              (try simp only [Act.put, aP, aZ, aS])
              refine pl_take (v := ?_) rfl ?_ ?_
              rotate_left
              · (go_simp; first | done | with_reducible rfl | rfl | omega | assumption | (simp; omega))
              (try simp only [Act.put, aP, aZ, aS])
              refine pl_eff rfl (fun Kp hKp => ?_)
              ((with_reducible apply st_box); assumption; (go_simp; rfl); intro b80 w80 hs80; simp only [Value.cells] at hs80)
              refine hKp.out _ _ ?_
              clear hKp Kp
              (try simp only [Act.put, aP, aZ, aS])
              refine pl_take (v := ?_) rfl ?_ ?_
              rotate_left
              · (go_simp; first | done | with_reducible rfl | rfl | omega | assumption | (simp; omega))
              (try simp only [Act.put, aP, aZ, aS])
              refine pl_done ?_
              refine hK16.out _ _ ?_
              (try clear hK16 K16)
              refine wk_seq (fun K17 hK17 => ?_)
              -- at a cut
              go_cut [11] from 81 to 132 (fun s11 w => s11 = .bool ok1 ∧ Sat w0 w (Rd1 buf q e4' l4' :: buf :: blk p (.cells #[.int .i64 sp, .int .i64 ap, .int .i64 st, .slice X 0 cx, .map (some bm)] 74 (0, 0)) :: own 33 1 X cx 0 [] :: DV [] :: mp (Value.int .i64) In64 bm (seMap bs) :: SatH (seBlks bs) :: blk b80 (.cells #[.int .i64 sq, .int .i64 sn, .int .i64 sti] 81 (0, 0)) :: L))
              case first =>
                as_aux_lemma =>
                refine rg_start rfl (by assumption) (fun wr14 hsr14 => ?_)
                refine rg_take (i := 0) (v := ?_) rfl (by kernel_rfl) (by kernel_rfl) (by kernel_rfl) (fun _ _ _ h => h) rfl (by assumption) ?_ ?_
                rotate_left
                · intro w hSw; (go_simp; first | done | with_reducible rfl | rfl | omega | assumption | (simp; omega))
                (try simp only [Act.put, aP, aZ, aS])
                refine rg_take (i := 1) (v := ?_) rfl (by kernel_rfl) (by kernel_rfl) (by kernel_rfl) (fun _ _ _ h => h) rfl (by assumption) ?_ ?_
                rotate_left
                · intro w hSw; (go_simp; first | done | with_reducible rfl | rfl | omega | assumption | (simp; omega))
                (try simp only [Act.put, aP, aZ, aS])
                by_cases k1 : was < id
                · refine rg_take (i := 2) (v := .bool true) rfl (by kernel_rfl) (by kernel_rfl) (by kernel_rfl) (fun _ _ _ h => h) rfl (by assumption) ?_ ?_
                  · intro w hSw; (go_simp; first | done | with_reducible rfl | rfl | omega | assumption | (simp; omega))
                  (try simp only [Act.put, aP, aZ, aS])
                  refine rg_take (i := 3) (v := .bool true) rfl (by kernel_rfl) (by kernel_rfl) (by kernel_rfl) (fun _ _ _ h => h) rfl (by assumption) ?_ ?_
                  · intro w hSw; (go_simp; first | done | with_reducible rfl | rfl | omega | assumption | (simp; omega))
                  (try simp only [Act.put, aP, aZ, aS])
                  refine rg_take (i := 4) (v := ?_) rfl (by kernel_rfl) (by kernel_rfl) (by kernel_rfl) (fun _ _ _ h => h) (by kernel_rfl) (by assumption) ?_ ?_
                  rotate_left
                  · intro w hSw; (go_simp; first | done | with_reducible rfl | rfl | omega | assumption | (simp; omega))
                  (try simp only [Act.put, aP, aZ, aS])
                  refine rg_take (i := 5) (v := ?_) rfl (by kernel_rfl) (by kernel_rfl) (by kernel_rfl) (fun _ _ _ h => h) (by kernel_rfl) (by assumption) ?_ ?_
                  rotate_left
                  · intro w hSw; (go_simp; first | done | with_reducible rfl | rfl | omega | assumption | (simp; omega))
                  (try simp only [Act.put, aP, aZ, aS])
                  refine rg_take (i := 6) (v := ?_) rfl (by kernel_rfl) (by kernel_rfl) (by kernel_rfl) (fun _ _ _ h => h) (by kernel_rfl) (by assumption) ?_ ?_
                  rotate_left
                  · intro w hSw; (go_simp; first | done | with_reducible rfl | rfl | omega | assumption | (simp; omega))
                  (try simp only [Act.put, aP, aZ, aS])
                  refine rg_take (i := 7) (v := ?_) rfl (by kernel_rfl) (by kernel_rfl) (by kernel_rfl) (fun _ _ _ h => h) (by kernel_rfl) (by assumption) ?_ ?_
                  rotate_left
                  · intro w hSw; (go_simp; first | done | with_reducible rfl | rfl | omega | assumption | (simp; omega))
                  (try simp only [Act.put, aP, aZ, aS])
                  refine rg_take (i := 8) (v := ?_) rfl (by kernel_rfl) (by kernel_rfl) (by kernel_rfl) (fun _ _ _ h => h) (by kernel_rfl) (by assumption) ?_ ?_
                  rotate_left
                  · intro w hSw; ((with_reducible apply yl_load); assumption; rfl; (repeat (first | with_reducible assumption | ((with_reducible apply Cl.own); exact rfl) | ((with_reducible apply Cl.blkL); exact rfl) | with_reducible apply Cl.cons)); rfl)
                  (try simp only [Act.put, aP, aZ, aS])
                  by_cases k2 : id ≤ ap
                  · refine rg_take (i := 9) (v := .bool true) rfl (by kernel_rfl) (by kernel_rfl) (by kernel_rfl) (fun _ _ _ h => h) (by kernel_rfl) (by assumption) ?_ ?_
                    · intro w hSw; (go_simp; first | done | with_reducible rfl | rfl | omega | assumption | (simp; omega))
                    (try simp only [Act.put, aP, aZ, aS])
                    refine rg_take (i := 10) (v := .bool true) rfl (by kernel_rfl) (by kernel_rfl) (by kernel_rfl) (fun _ _ _ h => h) rfl (by assumption) ?_ ?_
                    · intro w hSw; (go_simp; first | done | with_reducible rfl | rfl | omega | assumption | (simp; omega))
                    (try simp only [Act.put, aP, aZ, aS])
                    refine rg_take (i := 11) (v := .bool true) rfl (by kernel_rfl) (by kernel_rfl) (by kernel_rfl) (fun _ _ _ h => h) rfl (by assumption) ?_ ?_
                    · intro w hSw; (go_simp; first | done | with_reducible rfl | rfl | omega | assumption | (simp; omega))
                    (try simp only [Act.put, aP, aZ, aS])
                    refine rg_take (i := 12) (v := ?_) rfl (by kernel_rfl) (by kernel_rfl) (by kernel_rfl) (fun _ _ _ h => h) (by kernel_rfl) (by assumption) ?_ ?_
                    rotate_left
                    · intro w hSw; (go_simp; first | done | with_reducible rfl | rfl | omega | assumption | (simp; omega))
                    (try simp only [Act.put, aP, aZ, aS])
                    refine rg_take (i := 13) (v := ?_) rfl (by kernel_rfl) (by kernel_rfl) (by kernel_rfl) (fun _ _ _ h => h) (by kernel_rfl) (by assumption) ?_ ?_
                    rotate_left
                    · intro w hSw; (go_simp; first | done | with_reducible rfl | rfl | omega | assumption | (simp; omega))
                    (try simp only [Act.put, aP, aZ, aS])
                    refine rg_take (i := 14) (v := ?_) rfl (by kernel_rfl) (by kernel_rfl) (by kernel_rfl) (fun _ _ _ h => h) (by kernel_rfl) (by assumption) ?_ ?_
                    rotate_left
                    · intro w hSw; (go_simp; first | done | with_reducible rfl | rfl | omega | assumption | (simp; omega))
                    (try simp only [Act.put, aP, aZ, aS])
                    refine rg_take (i := 15) (v := ?_) rfl (by kernel_rfl) (by kernel_rfl) (by kernel_rfl) (fun _ _ _ h => h) (by kernel_rfl) (by assumption) ?_ ?_
                    rotate_left
                    · intro w hSw; ((with_reducible apply yl_load); assumption; rfl; (repeat (first | with_reducible assumption | ((with_reducible apply Cl.own); exact rfl) | ((with_reducible apply Cl.blkL); exact rfl) | with_reducible apply Cl.cons)); rfl)
                    (try simp only [Act.put, aP, aZ, aS])
                    by_cases k3 : sq < 1099511627776
                    · refine rg_take (i := 16) (v := .bool true) rfl (by kernel_rfl) (by kernel_rfl) (by kernel_rfl) (fun _ _ _ h => h) (by kernel_rfl) (by assumption) ?_ ?_
                      · intro w hSw; (go_simp; first | done | with_reducible rfl | rfl | omega | assumption | (simp; omega))
                      (try simp only [Act.put, aP, aZ, aS])
                      refine rg_take (i := 17) (v := .bool true) rfl (by kernel_rfl) (by kernel_rfl) (by kernel_rfl) (fun _ _ _ h => h) rfl (by assumption) ?_ ?_
                      · intro w hSw; (go_simp; first | done | with_reducible rfl | rfl | omega | assumption | (simp; omega))
                      (try simp only [Act.put, aP, aZ, aS])
                      refine rg_take (i := 18) (v := .bool true) rfl (by kernel_rfl) (by kernel_rfl) (by kernel_rfl) (fun _ _ _ h => h) rfl (by assumption) ?_ ?_
                      · intro w hSw; (go_simp; first | done | with_reducible rfl | rfl | omega | assumption | (simp; omega))
                      (try simp only [Act.put, aP, aZ, aS])
                      refine rg_take (i := 19) (v := ?_) rfl (by kernel_rfl) (by kernel_rfl) (by kernel_rfl) (fun _ _ _ h => h) (by kernel_rfl) (by assumption) ?_ ?_
                      rotate_left
                      · intro w hSw; (go_simp; first | done | with_reducible rfl | rfl | omega | assumption | (simp; omega))
                      (try simp only [Act.put, aP, aZ, aS])
                      refine rg_take (i := 20) (v := ?_) rfl (by kernel_rfl) (by kernel_rfl) (by kernel_rfl) (fun _ _ _ h => h) (by kernel_rfl) (by assumption) ?_ ?_
                      rotate_left
                      · intro w hSw; (go_simp; first | done | with_reducible rfl | rfl | omega | assumption | (simp; omega))
                      (try simp only [Act.put, aP, aZ, aS])
                      refine rg_take (i := 21) (v := ?_) rfl (by kernel_rfl) (by kernel_rfl) (by kernel_rfl) (fun _ _ _ h => h) (by kernel_rfl) (by assumption) ?_ ?_
                      rotate_left
                      · intro w hSw; (go_simp; first | done | with_reducible rfl | rfl | omega | assumption | (simp; omega))
                      (try simp only [Act.put, aP, aZ, aS])
                      refine rg_take (i := 22) (v := ?_) rfl (by kernel_rfl) (by kernel_rfl) (by kernel_rfl) (fun _ _ _ h => h) (by kernel_rfl) (by assumption) ?_ ?_
                      rotate_left
                      · intro w hSw; ((with_reducible apply yl_load); assumption; rfl; (repeat (first | with_reducible assumption | ((with_reducible apply Cl.own); exact rfl) | ((with_reducible apply Cl.blkL); exact rfl) | with_reducible apply Cl.cons)); rfl)
                      (try simp only [Act.put, aP, aZ, aS])
                      refine rg_take (i := 23) (v := ?_) rfl (by kernel_rfl) (by kernel_rfl) (by kernel_rfl) (fun _ _ _ h => h) (by kernel_rfl) (by assumption) ?_ ?_
                      rotate_left
                      · intro w hSw; (go_simp; first | done | with_reducible rfl | rfl | omega | assumption | (simp; omega))
                      (try simp only [Act.put, aP, aZ, aS])
                      by_cases k4 : sn < nx
                      · refine rg_take (i := 24) (v := .bool true) rfl (by kernel_rfl) (by kernel_rfl) (by kernel_rfl) (fun _ _ _ h => h) (by kernel_rfl) (by assumption) ?_ ?_
                        · intro w hSw; (go_simp; first | done | with_reducible rfl | rfl | omega | assumption | (simp; omega))
                        (try simp only [Act.put, aP, aZ, aS])
                        refine rg_take (i := 25) (v := .bool true) rfl (by kernel_rfl) (by kernel_rfl) (by kernel_rfl) (fun _ _ _ h => h) (by kernel_rfl) (by assumption) ?_ ?_
                        · intro w hSw; (go_simp; first | done | with_reducible rfl | rfl | omega | assumption | (simp; omega))
                        (try simp only [Act.put, aP, aZ, aS])
                        refine rg_skip (i := 26) rfl (by kernel_rfl) (by kernel_rfl) (by kernel_rfl) (fun _ _ _ h => h) (by kernel_rfl) (by assumption) ?_
                        (try simp only [Act.put, aP, aZ, aS])
                        refine rg_skip (i := 27) rfl (by kernel_rfl) (by kernel_rfl) (by kernel_rfl) (fun _ _ _ h => h) (by kernel_rfl) (by assumption) ?_
                        (try simp only [Act.put, aP, aZ, aS])
                        refine rg_skip (i := 28) rfl (by kernel_rfl) (by kernel_rfl) (by kernel_rfl) (fun _ _ _ h => h) (by kernel_rfl) (by assumption) ?_
                        (try simp only [Act.put, aP, aZ, aS])
                        refine rg_skip (i := 29) rfl (by kernel_rfl) (by kernel_rfl) (by kernel_rfl) (fun _ _ _ h => h) (by kernel_rfl) (by assumption) ?_
                        (try simp only [Act.put, aP, aZ, aS])
                        refine rg_skip (i := 30) rfl (by kernel_rfl) (by kernel_rfl) (by kernel_rfl) (fun _ _ _ h => h) (by kernel_rfl) (by assumption) ?_
                        (try simp only [Act.put, aP, aZ, aS])
                        refine rg_take (i := 31) (v := .bool true) rfl (by kernel_rfl) (by kernel_rfl) (by kernel_rfl) (fun _ _ _ h => h) (by kernel_rfl) (by assumption) ?_ ?_
                        · intro w hSw; (go_simp; first | done | with_reducible rfl | rfl | omega | assumption | (simp; omega))
                        (try simp only [Act.put, aP, aZ, aS])
                        refine rg_take (i := 32) (v := .bool true) rfl (by kernel_rfl) (by kernel_rfl) (by kernel_rfl) (fun _ _ _ h => h) rfl (by assumption) ?_ ?_
                        · intro w hSw; (go_simp; first | done | with_reducible rfl | rfl | omega | assumption | (simp; omega))
                        (try simp only [Act.put, aP, aZ, aS])
                        refine rg_take (i := 33) (v := .bool true) rfl (by kernel_rfl) (by kernel_rfl) (by kernel_rfl) (fun _ _ _ h => h) rfl (by assumption) ?_ ?_
                        · intro w hSw; (go_simp; first | done | with_reducible rfl | rfl | omega | assumption | (simp; omega))
                        (try simp only [Act.put, aP, aZ, aS])
                        refine rg_take (i := 34) (v := ?_) rfl (by kernel_rfl) (by kernel_rfl) (by kernel_rfl) (fun _ _ _ h => h) (by kernel_rfl) (by assumption) ?_ ?_
                        rotate_left
                        · intro w hSw; (go_simp; first | done | with_reducible rfl | rfl | omega | assumption | (simp; omega))
                        (try simp only [Act.put, aP, aZ, aS])
                        refine rg_take (i := 35) (v := ?_) rfl (by kernel_rfl) (by kernel_rfl) (by kernel_rfl) (fun _ _ _ h => h) (by kernel_rfl) (by assumption) ?_ ?_
                        rotate_left
                        · intro w hSw; (go_simp; first | done | with_reducible rfl | rfl | omega | assumption | (simp; omega))
                        (try simp only [Act.put, aP, aZ, aS])
                        refine rg_take (i := 36) (v := ?_) rfl (by kernel_rfl) (by kernel_rfl) (by kernel_rfl) (fun _ _ _ h => h) (by kernel_rfl) (by assumption) ?_ ?_
                        rotate_left
                        · intro w hSw; (go_simp; first | done | with_reducible rfl | rfl | omega | assumption | (simp; omega))
                        (try simp only [Act.put, aP, aZ, aS])
                        refine rg_take (i := 37) (v := ?_) rfl (by kernel_rfl) (by kernel_rfl) (by kernel_rfl) (fun _ _ _ h => h) (by kernel_rfl) (by assumption) ?_ ?_
                        rotate_left
                        · intro w hSw; ((with_reducible apply yl_load); assumption; rfl; (repeat (first | with_reducible assumption | ((with_reducible apply Cl.own); exact rfl) | ((with_reducible apply Cl.blkL); exact rfl) | with_reducible apply Cl.cons)); rfl)
                        (try simp only [Act.put, aP, aZ, aS])
                        refine rg_take (i := 38) (v := ?_) rfl (by kernel_rfl) (by kernel_rfl) (by kernel_rfl) (fun _ _ _ h => h) (by kernel_rfl) (by assumption) ?_ ?_
                        rotate_left
                        · intro w hSw; (go_simp; first | done | with_reducible rfl | rfl | omega | assumption | (simp; omega))
                        (try simp only [Act.put, aP, aZ, aS])
                        by_cases k6 : id ≤ sti
                        · refine rg_take (i := 39) (v := .bool true) rfl (by kernel_rfl) (by kernel_rfl) (by kernel_rfl) (fun _ _ _ h => h) (by kernel_rfl) (by assumption) ?_ ?_
                          · intro w hSw; (go_simp; first | done | with_reducible rfl | rfl | omega | assumption | (simp; omega))
                          (try simp only [Act.put, aP, aZ, aS])
                          refine rg_take (i := 40) (v := .bool true) rfl (by kernel_rfl) (by kernel_rfl) (by kernel_rfl) (fun _ _ _ h => h) rfl (by assumption) ?_ ?_
                          · intro w hSw; (go_simp; first | done | with_reducible rfl | rfl | omega | assumption | (simp; omega))
                          (try simp only [Act.put, aP, aZ, aS])
                          refine rg_take (i := 41) (v := .bool true) rfl (by kernel_rfl) (by kernel_rfl) (by kernel_rfl) (fun _ _ _ h => h) rfl (by assumption) ?_ ?_
                          · intro w hSw; (go_simp; first | done | with_reducible rfl | rfl | omega | assumption | (simp; omega))
                          (try simp only [Act.put, aP, aZ, aS])
                          refine rg_take (i := 42) (v := ?_) rfl (by kernel_rfl) (by kernel_rfl) (by kernel_rfl) (fun _ _ _ h => h) (by kernel_rfl) (by assumption) ?_ ?_
                          rotate_left
                          · intro w hSw; (go_simp; first | done | with_reducible rfl | rfl | omega | assumption | (simp; omega))
                          (try simp only [Act.put, aP, aZ, aS])
                          refine rg_take (i := 43) (v := ?_) rfl (by kernel_rfl) (by kernel_rfl) (by kernel_rfl) (fun _ _ _ h => h) (by kernel_rfl) (by assumption) ?_ ?_
                          rotate_left
                          · intro w hSw; (go_simp; first | done | with_reducible rfl | rfl | omega | assumption | (simp; omega))
                          (try simp only [Act.put, aP, aZ, aS])
                          refine rg_take (i := 44) (v := ?_) rfl (by kernel_rfl) (by kernel_rfl) (by kernel_rfl) (fun _ _ _ h => h) (by kernel_rfl) (by assumption) ?_ ?_
                          rotate_left
                          · intro w hSw; (go_simp; first | done | with_reducible rfl | rfl | omega | assumption | (simp; omega))
                          (try simp only [Act.put, aP, aZ, aS])
                          refine rg_take (i := 45) (v := ?_) rfl (by kernel_rfl) (by kernel_rfl) (by kernel_rfl) (fun _ _ _ h => h) (by kernel_rfl) (by assumption) ?_ ?_
                          rotate_left
                          · intro w hSw; ((with_reducible apply yl_load); assumption; rfl; (repeat (first | with_reducible assumption | ((with_reducible apply Cl.own); exact rfl) | ((with_reducible apply Cl.blkL); exact rfl) | with_reducible apply Cl.cons)); rfl)
                          (try simp only [Act.put, aP, aZ, aS])
                          refine rg_take (i := 46) (v := ?_) rfl (by kernel_rfl) (by kernel_rfl) (by kernel_rfl) (fun _ _ _ h => h) (by kernel_rfl) (by assumption) ?_ ?_
                          rotate_left
                          · intro w hSw; (go_simp; first | done | with_reducible rfl | rfl | omega | assumption | (simp; omega))
                          (try simp only [Act.put, aP, aZ, aS])
                          refine rg_take (i := 47) (v := ?_) rfl (by kernel_rfl) (by kernel_rfl) (by kernel_rfl) (fun _ _ _ h => h) (by kernel_rfl) (by assumption) ?_ ?_
                          rotate_left
                          · intro w hSw; (go_simp; first | done | with_reducible rfl | rfl | omega | assumption | (simp; omega))
                          (try simp only [Act.put, aP, aZ, aS])
                          refine rg_take (i := 48) (v := ?_) rfl (by kernel_rfl) (by kernel_rfl) (by kernel_rfl) (fun _ _ _ h => h) (by kernel_rfl) (by assumption) ?_ ?_
                          rotate_left
                          · intro w hSw; (go_simp; first | done | with_reducible rfl | rfl | omega | assumption | (simp; omega))
                          (try simp only [Act.put, aP, aZ, aS])
                          refine rg_take (i := 49) (v := ?_) rfl (by kernel_rfl) (by kernel_rfl) (by kernel_rfl) (fun _ _ _ h => h) (by kernel_rfl) (by assumption) ?_ ?_
                          rotate_left
                          · intro w hSw; ((with_reducible apply yl_load); assumption; rfl; (repeat (first | with_reducible assumption | ((with_reducible apply Cl.own); exact rfl) | ((with_reducible apply Cl.blkL); exact rfl) | with_reducible apply Cl.cons)); rfl)
                          (try simp only [Act.put, aP, aZ, aS])
                          by_cases k7 : sti ≤ ap
                          · refine rg_take (i := 50) (v := .bool true) rfl (by kernel_rfl) (by kernel_rfl) (by kernel_rfl) (fun _ _ _ h => h) (by kernel_rfl) (by assumption) ?_ ?_
                            · intro w hSw; (go_simp; first | done | with_reducible rfl | rfl | omega | assumption | (simp; omega))
                            (try simp only [Act.put, aP, aZ, aS])
                            refine rg_take (i := 51) (v := .bool true) rfl (by kernel_rfl) (by kernel_rfl) (by kernel_rfl) (fun _ _ _ h => h) rfl (by assumption) ?_ ?_
                            · intro w hSw; (go_simp; first | done | with_reducible rfl | rfl | omega | assumption | (simp; omega))
                            (try simp only [Act.put, aP, aZ, aS])
                            refine rg_take (i := 52) (v := .bool true) rfl (by kernel_rfl) (by kernel_rfl) (by kernel_rfl) (fun _ _ _ h => h) rfl (by assumption) ?_ ?_
                            · intro w hSw; (go_simp; first | done | with_reducible rfl | rfl | omega | assumption | (simp; omega))
                            (try simp only [Act.put, aP, aZ, aS])
                            refine rg_done (by kernel_rfl) ?_
                            refine (by assumption : ∀ a' w', Met _ a' w' → _) _ _ ?_
                            go_meet
                            case rel => exact ⟨congrArg Value.bool (by rw [← HO.out]; first | exact (decide_eq_true (by omega)).symm | exact (decide_eq_false (by omega)).symm), (by assumption : Sat w0 _ _).pick (by (repeat (first | exact Pick.nil _ | exact Pick.tail _ | exact Out.here _ | apply Out.there | apply Pick.cons | apply Pick.drop)))⟩
                          · refine rg_take (i := 50) (v := .bool false) rfl (by kernel_rfl) (by kernel_rfl) (by kernel_rfl) (fun _ _ _ h => h) (by kernel_rfl) (by assumption) ?_ ?_
                            · intro w hSw; (go_simp; first | done | with_reducible rfl | rfl | omega | assumption | (simp; omega))
                            (try simp only [Act.put, aP, aZ, aS])
                            refine rg_take (i := 51) (v := .bool false) rfl (by kernel_rfl) (by kernel_rfl) (by kernel_rfl) (fun _ _ _ h => h) rfl (by assumption) ?_ ?_
                            · intro w hSw; (go_simp; first | done | with_reducible rfl | rfl | omega | assumption | (simp; omega))
                            (try simp only [Act.put, aP, aZ, aS])
                            refine rg_take (i := 52) (v := .bool false) rfl (by kernel_rfl) (by kernel_rfl) (by kernel_rfl) (fun _ _ _ h => h) rfl (by assumption) ?_ ?_
                            · intro w hSw; (go_simp; first | done | with_reducible rfl | rfl | omega | assumption | (simp; omega))
                            (try simp only [Act.put, aP, aZ, aS])
                            refine rg_done (by kernel_rfl) ?_
                            refine (by assumption : ∀ a' w', Met _ a' w' → _) _ _ ?_
                            go_meet
                            case rel => exact ⟨congrArg Value.bool (by rw [← HO.out]; first | exact (decide_eq_true (by omega)).symm | exact (decide_eq_false (by omega)).symm), (by assumption : Sat w0 _ _).pick (by (repeat (first | exact Pick.nil _ | exact Pick.tail _ | exact Out.here _ | apply Out.there | apply Pick.cons | apply Pick.drop)))⟩
                        · refine rg_take (i := 39) (v := .bool false) rfl (by kernel_rfl) (by kernel_rfl) (by kernel_rfl) (fun _ _ _ h => h) (by kernel_rfl) (by assumption) ?_ ?_
                          · intro w hSw; (go_simp; first | done | with_reducible rfl | rfl | omega | assumption | (simp; omega))
                          (try simp only [Act.put, aP, aZ, aS])
                          refine rg_take (i := 40) (v := .bool false) rfl (by kernel_rfl) (by kernel_rfl) (by kernel_rfl) (fun _ _ _ h => h) rfl (by assumption) ?_ ?_
                          · intro w hSw; (go_simp; first | done | with_reducible rfl | rfl | omega | assumption | (simp; omega))
                          (try simp only [Act.put, aP, aZ, aS])
                          refine rg_take (i := 41) (v := .bool false) rfl (by kernel_rfl) (by kernel_rfl) (by kernel_rfl) (fun _ _ _ h => h) rfl (by assumption) ?_ ?_
                          · intro w hSw; (go_simp; first | done | with_reducible rfl | rfl | omega | assumption | (simp; omega))
                          (try simp only [Act.put, aP, aZ, aS])
                          refine rg_skip (i := 42) rfl (by kernel_rfl) (by kernel_rfl) (by kernel_rfl) (fun _ _ _ h => h) (by kernel_rfl) (by assumption) ?_
                          (try simp only [Act.put, aP, aZ, aS])
                          refine rg_skip (i := 43) rfl (by kernel_rfl) (by kernel_rfl) (by kernel_rfl) (fun _ _ _ h => h) (by kernel_rfl) (by assumption) ?_
                          (try simp only [Act.put, aP, aZ, aS])
                          refine rg_skip (i := 44) rfl (by kernel_rfl) (by kernel_rfl) (by kernel_rfl) (fun _ _ _ h => h) (by kernel_rfl) (by assumption) ?_
                          (try simp only [Act.put, aP, aZ, aS])
                          refine rg_skip (i := 45) rfl (by kernel_rfl) (by kernel_rfl) (by kernel_rfl) (fun _ _ _ h => h) (by kernel_rfl) (by assumption) ?_
                          (try simp only [Act.put, aP, aZ, aS])
                          refine rg_skip (i := 46) rfl (by kernel_rfl) (by kernel_rfl) (by kernel_rfl) (fun _ _ _ h => h) (by kernel_rfl) (by assumption) ?_
                          (try simp only [Act.put, aP, aZ, aS])
                          refine rg_skip (i := 47) rfl (by kernel_rfl) (by kernel_rfl) (by kernel_rfl) (fun _ _ _ h => h) (by kernel_rfl) (by assumption) ?_
                          (try simp only [Act.put, aP, aZ, aS])
                          refine rg_skip (i := 48) rfl (by kernel_rfl) (by kernel_rfl) (by kernel_rfl) (fun _ _ _ h => h) (by kernel_rfl) (by assumption) ?_
                          (try simp only [Act.put, aP, aZ, aS])
                          refine rg_skip (i := 49) rfl (by kernel_rfl) (by kernel_rfl) (by kernel_rfl) (fun _ _ _ h => h) (by kernel_rfl) (by assumption) ?_
                          (try simp only [Act.put, aP, aZ, aS])
                          refine rg_skip (i := 50) rfl (by kernel_rfl) (by kernel_rfl) (by kernel_rfl) (fun _ _ _ h => h) (by kernel_rfl) (by assumption) ?_
                          (try simp only [Act.put, aP, aZ, aS])
                          refine rg_take (i := 51) (v := .bool false) rfl (by kernel_rfl) (by kernel_rfl) (by kernel_rfl) (fun _ _ _ h => h) rfl (by assumption) ?_ ?_
                          · intro w hSw; (go_simp; first | done | with_reducible rfl | rfl | omega | assumption | (simp; omega))
                          (try simp only [Act.put, aP, aZ, aS])
                          refine rg_take (i := 52) (v := .bool false) rfl (by kernel_rfl) (by kernel_rfl) (by kernel_rfl) (fun _ _ _ h => h) rfl (by assumption) ?_ ?_
                          · intro w hSw; (go_simp; first | done | with_reducible rfl | rfl | omega | assumption | (simp; omega))
                          (try simp only [Act.put, aP, aZ, aS])
                          refine rg_done (by kernel_rfl) ?_
                          refine (by assumption : ∀ a' w', Met _ a' w' → _) _ _ ?_
                          go_meet
                          case rel => exact ⟨congrArg Value.bool (by rw [← HO.out]; first | exact (decide_eq_true (by omega)).symm | exact (decide_eq_false (by omega)).symm), (by assumption : Sat w0 _ _).pick (by (repeat (first | exact Pick.nil _ | exact Pick.tail _ | exact Out.here _ | apply Out.there | apply Pick.cons | apply Pick.drop)))⟩
                      · refine rg_take (i := 24) (v := .bool false) rfl (by kernel_rfl) (by kernel_rfl) (by kernel_rfl) (fun _ _ _ h => h) (by kernel_rfl) (by assumption) ?_ ?_
                        · intro w hSw; (go_simp; first | done | with_reducible rfl | rfl | omega | assumption | (simp; omega))
                        (try simp only [Act.put, aP, aZ, aS])
                        refine rg_take (i := 25) (v := .bool false) rfl (by kernel_rfl) (by kernel_rfl) (by kernel_rfl) (fun _ _ _ h => h) (by kernel_rfl) (by assumption) ?_ ?_
                        · intro w hSw; (go_simp; first | done | with_reducible rfl | rfl | omega | assumption | (simp; omega))
                        (try simp only [Act.put, aP, aZ, aS])
                        refine rg_take (i := 26) (v := ?_) rfl (by kernel_rfl) (by kernel_rfl) (by kernel_rfl) (fun _ _ _ h => h) (by kernel_rfl) (by assumption) ?_ ?_
                        rotate_left
                        · intro w hSw; (go_simp; first | done | with_reducible rfl | rfl | omega | assumption | (simp; omega))
                        (try simp only [Act.put, aP, aZ, aS])
                        refine rg_take (i := 27) (v := ?_) rfl (by kernel_rfl) (by kernel_rfl) (by kernel_rfl) (fun _ _ _ h => h) (by kernel_rfl) (by assumption) ?_ ?_
                        rotate_left
                        · intro w hSw; (go_simp; first | done | with_reducible rfl | rfl | omega | assumption | (simp; omega))
                        (try simp only [Act.put, aP, aZ, aS])
                        refine rg_take (i := 28) (v := ?_) rfl (by kernel_rfl) (by kernel_rfl) (by kernel_rfl) (fun _ _ _ h => h) (by kernel_rfl) (by assumption) ?_ ?_
                        rotate_left
                        · intro w hSw; (go_simp; first | done | with_reducible rfl | rfl | omega | assumption | (simp; omega))
                        (try simp only [Act.put, aP, aZ, aS])
                        refine rg_take (i := 29) (v := ?_) rfl (by kernel_rfl) (by kernel_rfl) (by kernel_rfl) (fun _ _ _ h => h) (by kernel_rfl) (by assumption) ?_ ?_
                        rotate_left
                        · intro w hSw; ((with_reducible apply yl_load); assumption; rfl; (repeat (first | with_reducible assumption | ((with_reducible apply Cl.own); exact rfl) | ((with_reducible apply Cl.blkL); exact rfl) | with_reducible apply Cl.cons)); rfl)
                        (try simp only [Act.put, aP, aZ, aS])
                        by_cases k5 : sn = 0
                        · refine rg_take (i := 30) (v := .bool true) rfl (by kernel_rfl) (by kernel_rfl) (by kernel_rfl) (fun _ _ _ h => h) (by kernel_rfl) (by assumption) ?_ ?_
                          · intro w hSw; (go_simp; first | done | with_reducible rfl | rfl | omega | assumption | (simp; omega))
                          (try simp only [Act.put, aP, aZ, aS])
                          refine rg_take (i := 31) (v := .bool true) rfl (by kernel_rfl) (by kernel_rfl) (by kernel_rfl) (fun _ _ _ h => h) (by kernel_rfl) (by assumption) ?_ ?_
                          · intro w hSw; (go_simp; first | done | with_reducible rfl | rfl | omega | assumption | (simp; omega))
                          (try simp only [Act.put, aP, aZ, aS])
                          refine rg_take (i := 32) (v := .bool true) rfl (by kernel_rfl) (by kernel_rfl) (by kernel_rfl) (fun _ _ _ h => h) rfl (by assumption) ?_ ?_
                          · intro w hSw; (go_simp; first | done | with_reducible rfl | rfl | omega | assumption | (simp; omega))
                          (try simp only [Act.put, aP, aZ, aS])
                          refine rg_take (i := 33) (v := .bool true) rfl (by kernel_rfl) (by kernel_rfl) (by kernel_rfl) (fun _ _ _ h => h) rfl (by assumption) ?_ ?_
                          · intro w hSw; (go_simp; first | done | with_reducible rfl | rfl | omega | assumption | (simp; omega))
                          (try simp only [Act.put, aP, aZ, aS])
                          refine rg_take (i := 34) (v := ?_) rfl (by kernel_rfl) (by kernel_rfl) (by kernel_rfl) (fun _ _ _ h => h) (by kernel_rfl) (by assumption) ?_ ?_
                          rotate_left
                          · intro w hSw; (go_simp; first | done | with_reducible rfl | rfl | omega | assumption | (simp; omega))
                          (try simp only [Act.put, aP, aZ, aS])
                          refine rg_take (i := 35) (v := ?_) rfl (by kernel_rfl) (by kernel_rfl) (by kernel_rfl) (fun _ _ _ h => h) (by kernel_rfl) (by assumption) ?_ ?_
                          rotate_left
                          · intro w hSw; (go_simp; first | done | with_reducible rfl | rfl | omega | assumption | (simp; omega))
                          (try simp only [Act.put, aP, aZ, aS])
                          refine rg_take (i := 36) (v := ?_) rfl (by kernel_rfl) (by kernel_rfl) (by kernel_rfl) (fun _ _ _ h => h) (by kernel_rfl) (by assumption) ?_ ?_
                          rotate_left
                          · intro w hSw; (go_simp; first | done | with_reducible rfl | rfl | omega | assumption | (simp; omega))
                          (try simp only [Act.put, aP, aZ, aS])
                          refine rg_take (i := 37) (v := ?_) rfl (by kernel_rfl) (by kernel_rfl) (by kernel_rfl) (fun _ _ _ h => h) (by kernel_rfl) (by assumption) ?_ ?_
                          rotate_left
                          · intro w hSw; ((with_reducible apply yl_load); assumption; rfl; (repeat (first | with_reducible assumption | ((with_reducible apply Cl.own); exact rfl) | ((with_reducible apply Cl.blkL); exact rfl) | with_reducible apply Cl.cons)); rfl)
                          (try simp only [Act.put, aP, aZ, aS])
                          refine rg_take (i := 38) (v := ?_) rfl (by kernel_rfl) (by kernel_rfl) (by kernel_rfl) (fun _ _ _ h => h) (by kernel_rfl) (by assumption) ?_ ?_
                          rotate_left
                          · intro w hSw; (go_simp; first | done | with_reducible rfl | rfl | omega | assumption | (simp; omega))
                          (try simp only [Act.put, aP, aZ, aS])
                          by_cases k6 : id ≤ sti
                          · refine rg_take (i := 39) (v := .bool true) rfl (by kernel_rfl) (by kernel_rfl) (by kernel_rfl) (fun _ _ _ h => h) (by kernel_rfl) (by assumption) ?_ ?_
                            · intro w hSw; (go_simp; first | done | with_reducible rfl | rfl | omega | assumption | (simp; omega))
                            (try simp only [Act.put, aP, aZ, aS])
                            refine rg_take (i := 40) (v := .bool true) rfl (by kernel_rfl) (by kernel_rfl) (by kernel_rfl) (fun _ _ _ h => h) rfl (by assumption) ?_ ?_
                            · intro w hSw; (go_simp; first | done | with_reducible rfl | rfl | omega | assumption | (simp; omega))
                            (try simp only [Act.put, aP, aZ, aS])
                            refine rg_take (i := 41) (v := .bool true) rfl (by kernel_rfl) (by kernel_rfl) (by kernel_rfl) (fun _ _ _ h => h) rfl (by assumption) ?_ ?_
                            · intro w hSw; (go_simp; first | done | with_reducible rfl | rfl | omega | assumption | (simp; omega))
                            (try simp only [Act.put, aP, aZ, aS])
                            refine rg_take (i := 42) (v := ?_) rfl (by kernel_rfl) (by kernel_rfl) (by kernel_rfl) (fun _ _ _ h => h) (by kernel_rfl) (by assumption) ?_ ?_
                            rotate_left
                            · intro w hSw; (go_simp; first | done | with_reducible rfl | rfl | omega | assumption | (simp; omega))
                            (try simp only [Act.put, aP, aZ, aS])
                            refine rg_take (i := 43) (v := ?_) rfl (by kernel_rfl) (by kernel_rfl) (by kernel_rfl) (fun _ _ _ h => h) (by kernel_rfl) (by assumption) ?_ ?_
                            rotate_left
                            · intro w hSw; (go_simp; first | done | with_reducible rfl | rfl | omega | assumption | (simp; omega))
                            (try simp only [Act.put, aP, aZ, aS])
                            refine rg_take (i := 44) (v := ?_) rfl (by kernel_rfl) (by kernel_rfl) (by kernel_rfl) (fun _ _ _ h => h) (by kernel_rfl) (by assumption) ?_ ?_
                            rotate_left
                            · intro w hSw; (go_simp; first | done | with_reducible rfl | rfl | omega | assumption | (simp; omega))
                            (try simp only [Act.put, aP, aZ, aS])
                            refine rg_take (i := 45) (v := ?_) rfl (by kernel_rfl) (by kernel_rfl) (by kernel_rfl) (fun _ _ _ h => h) (by kernel_rfl) (by assumption) ?_ ?_
                            rotate_left
                            · intro w hSw; ((with_reducible apply yl_load); assumption; rfl; (repeat (first | with_reducible assumption | ((with_reducible apply Cl.own); exact rfl) | ((with_reducible apply Cl.blkL); exact rfl) | with_reducible apply Cl.cons)); rfl)
                            (try simp only [Act.put, aP, aZ, aS])
                            refine rg_take (i := 46) (v := ?_) rfl (by kernel_rfl) (by kernel_rfl) (by kernel_rfl) (fun _ _ _ h => h) (by kernel_rfl) (by assumption) ?_ ?_
                            rotate_left
                            · intro w hSw; (go_simp; first | done | with_reducible rfl | rfl | omega | assumption | (simp; omega))
                            (try simp only [Act.put, aP, aZ, aS])
                            refine rg_take (i := 47) (v := ?_) rfl (by kernel_rfl) (by kernel_rfl) (by kernel_rfl) (fun _ _ _ h => h) (by kernel_rfl) (by assumption) ?_ ?_
                            rotate_left
                            · intro w hSw; (go_simp; first | done | with_reducible rfl | rfl | omega | assumption | (simp; omega))
                            (try simp only [Act.put, aP, aZ, aS])
                            refine rg_take (i := 48) (v := ?_) rfl (by kernel_rfl) (by kernel_rfl) (by kernel_rfl) (fun _ _ _ h => h) (by kernel_rfl) (by assumption) ?_ ?_
                            rotate_left
                            · intro w hSw; (go_simp; first | done | with_reducible rfl | rfl | omega | assumption | (simp; omega))
                            (try simp only [Act.put, aP, aZ, aS])
                            refine rg_take (i := 49) (v := ?_) rfl (by kernel_rfl) (by kernel_rfl) (by kernel_rfl) (fun _ _ _ h => h) (by kernel_rfl) (by assumption) ?_ ?_
                            rotate_left
                            · intro w hSw; ((with_reducible apply yl_load); assumption; rfl; (repeat (first | with_reducible assumption | ((with_reducible apply Cl.own); exact rfl) | ((with_reducible apply Cl.blkL); exact rfl) | with_reducible apply Cl.cons)); rfl)
                            (try simp only [Act.put, aP, aZ, aS])
                            by_cases k7 : sti ≤ ap
                            · refine rg_take (i := 50) (v := .bool true) rfl (by kernel_rfl) (by kernel_rfl) (by kernel_rfl) (fun _ _ _ h => h) (by kernel_rfl) (by assumption) ?_ ?_
                              · intro w hSw; (go_simp; first | done | with_reducible rfl | rfl | omega | assumption | (simp; omega))
                              (try simp only [Act.put, aP, aZ, aS])
                              refine rg_take (i := 51) (v := .bool true) rfl (by kernel_rfl) (by kernel_rfl) (by kernel_rfl) (fun _ _ _ h => h) rfl (by assumption) ?_ ?_
                              · intro w hSw; (go_simp; first | done | with_reducible rfl | rfl | omega | assumption | (simp; omega))
                              (try simp only [Act.put, aP, aZ, aS])
                              refine rg_take (i := 52) (v := .bool true) rfl (by kernel_rfl) (by kernel_rfl) (by kernel_rfl) (fun _ _ _ h => h) rfl (by assumption) ?_ ?_
                              · intro w hSw; (go_simp; first | done | with_reducible rfl | rfl | omega | assumption | (simp; omega))
                              (try simp only [Act.put, aP, aZ, aS])
                              refine rg_done (by kernel_rfl) ?_
                              refine (by assumption : ∀ a' w', Met _ a' w' → _) _ _ ?_
                              go_meet
                              case rel => exact ⟨congrArg Value.bool (by rw [← HO.out]; first | exact (decide_eq_true (by omega)).symm | exact (decide_eq_false (by omega)).symm), (by assumption : Sat w0 _ _).pick (by (repeat (first | exact Pick.nil _ | exact Pick.tail _ | exact Out.here _ | apply Out.there | apply Pick.cons | apply Pick.drop)))⟩
                            · refine rg_take (i := 50) (v := .bool false) rfl (by kernel_rfl) (by kernel_rfl) (by kernel_rfl) (fun _ _ _ h => h) (by kernel_rfl) (by assumption) ?_ ?_
                              · intro w hSw; (go_simp; first | done | with_reducible rfl | rfl | omega | assumption | (simp; omega))
                              (try simp only [Act.put, aP, aZ, aS])
                              refine rg_take (i := 51) (v := .bool false) rfl (by kernel_rfl) (by kernel_rfl) (by kernel_rfl) (fun _ _ _ h => h) rfl (by assumption) ?_ ?_
                              · intro w hSw; (go_simp; first | done | with_reducible rfl | rfl | omega | assumption | (simp; omega))
                              (try simp only [Act.put, aP, aZ, aS])
                              refine rg_take (i := 52) (v := .bool false) rfl (by kernel_rfl) (by kernel_rfl) (by kernel_rfl) (fun _ _ _ h => h) rfl (by assumption) ?_ ?_
                              · intro w hSw; (go_simp; first | done | with_reducible rfl | rfl | omega | assumption | (simp; omega))
                              (try simp only [Act.put, aP, aZ, aS])
                              refine rg_done (by kernel_rfl) ?_
                              refine (by assumption : ∀ a' w', Met _ a' w' → _) _ _ ?_
                              go_meet
                              case rel => exact ⟨congrArg Value.bool (by rw [← HO.out]; first | exact (decide_eq_true (by omega)).symm | exact (decide_eq_false (by omega)).symm), (by assumption : Sat w0 _ _).pick (by (repeat (first | exact Pick.nil _ | exact Pick.tail _ | exact Out.here _ | apply Out.there | apply Pick.cons | apply Pick.drop)))⟩
                          · refine rg_take (i := 39) (v := .bool false) rfl (by kernel_rfl) (by kernel_rfl) (by kernel_rfl) (fun _ _ _ h => h) (by kernel_rfl) (by assumption) ?_ ?_
                            · intro w hSw; (go_simp; first | done | with_reducible rfl | rfl | omega | assumption | (simp; omega))
                            (try simp only [Act.put, aP, aZ, aS])
                            refine rg_take (i := 40) (v := .bool false) rfl (by kernel_rfl) (by kernel_rfl) (by kernel_rfl) (fun _ _ _ h => h) rfl (by assumption) ?_ ?_
                            · intro w hSw; (go_simp; first | done | with_reducible rfl | rfl | omega | assumption | (simp; omega))
                            (try simp only [Act.put, aP, aZ, aS])
                            refine rg_take (i := 41) (v := .bool false) rfl (by kernel_rfl) (by kernel_rfl) (by kernel_rfl) (fun _ _ _ h => h) rfl (by assumption) ?_ ?_
                            · intro w hSw; (go_simp; first | done | with_reducible rfl | rfl | omega | assumption | (simp; omega))
                            (try simp only [Act.put, aP, aZ, aS])
                            refine rg_skip (i := 42) rfl (by kernel_rfl) (by kernel_rfl) (by kernel_rfl) (fun _ _ _ h => h) (by kernel_rfl) (by assumption) ?_
                            (try simp only [Act.put, aP, aZ, aS])
                            refine rg_skip (i := 43) rfl (by kernel_rfl) (by kernel_rfl) (by kernel_rfl) (fun _ _ _ h => h) (by kernel_rfl) (by assumption) ?_
                            (try simp only [Act.put, aP, aZ, aS])
                            refine rg_skip (i := 44) rfl (by kernel_rfl) (by kernel_rfl) (by kernel_rfl) (fun _ _ _ h => h) (by kernel_rfl) (by assumption) ?_
                            (try simp only [Act.put, aP, aZ, aS])
                            refine rg_skip (i := 45) rfl (by kernel_rfl) (by kernel_rfl) (by kernel_rfl) (fun _ _ _ h => h) (by kernel_rfl) (by assumption) ?_
                            (try simp only [Act.put, aP, aZ, aS])
                            refine rg_skip (i := 46) rfl (by kernel_rfl) (by kernel_rfl) (by kernel_rfl) (fun _ _ _ h => h) (by kernel_rfl) (by assumption) ?_
                            (try simp only [Act.put, aP, aZ, aS])
                            refine rg_skip (i := 47) rfl (by kernel_rfl) (by kernel_rfl) (by kernel_rfl) (fun _ _ _ h => h) (by kernel_rfl) (by assumption) ?_
                            (try simp only [Act.put, aP, aZ, aS])
                            refine rg_skip (i := 48) rfl (by kernel_rfl) (by kernel_rfl) (by kernel_rfl) (fun _ _ _ h => h) (by kernel_rfl) (by assumption) ?_
                            (try simp only [Act.put, aP, aZ, aS])
                            refine rg_skip (i := 49) rfl (by kernel_rfl) (by kernel_rfl) (by kernel_rfl) (fun _ _ _ h => h) (by kernel_rfl) (by assumption) ?_
                            (try simp only [Act.put, aP, aZ, aS])
                            refine rg_skip (i := 50) rfl (by kernel_rfl) (by kernel_rfl) (by kernel_rfl) (fun _ _ _ h => h) (by kernel_rfl) (by assumption) ?_
                            (try simp only [Act.put, aP, aZ, aS])
                            refine rg_take (i := 51) (v := .bool false) rfl (by kernel_rfl) (by kernel_rfl) (by kernel_rfl) (fun _ _ _ h => h) rfl (by assumption) ?_ ?_
                            · intro w hSw; (go_simp; first | done | with_reducible rfl | rfl | omega | assumption | (simp; omega))
                            (try simp only [Act.put, aP, aZ, aS])
                            refine rg_take (i := 52) (v := .bool false) rfl (by kernel_rfl) (by kernel_rfl) (by kernel_rfl) (fun _ _ _ h => h) rfl (by assumption) ?_ ?_
                            · intro w hSw; (go_simp; first | done | with_reducible rfl | rfl | omega | assumption | (simp; omega))
                            (try simp only [Act.put, aP, aZ, aS])
                            refine rg_done (by kernel_rfl) ?_
                            refine (by assumption : ∀ a' w', Met _ a' w' → _) _ _ ?_
                            go_meet
                            case rel => exact ⟨congrArg Value.bool (by rw [← HO.out]; first | exact (decide_eq_true (by omega)).symm | exact (decide_eq_false (by omega)).symm), (by assumption : Sat w0 _ _).pick (by (repeat (first | exact Pick.nil _ | exact Pick.tail _ | exact Out.here _ | apply Out.there | apply Pick.cons | apply Pick.drop)))⟩
                        · refine rg_take (i := 30) (v := .bool false) rfl (by kernel_rfl) (by kernel_rfl) (by kernel_rfl) (fun _ _ _ h => h) (by kernel_rfl) (by assumption) ?_ ?_
                          · intro w hSw; (go_simp; first | done | with_reducible rfl | rfl | omega | assumption | (simp; omega))
                          (try simp only [Act.put, aP, aZ, aS])
                          refine rg_take (i := 31) (v := .bool false) rfl (by kernel_rfl) (by kernel_rfl) (by kernel_rfl) (fun _ _ _ h => h) (by kernel_rfl) (by assumption) ?_ ?_
                          · intro w hSw; (go_simp; first | done | with_reducible rfl | rfl | omega | assumption | (simp; omega))
                          (try simp only [Act.put, aP, aZ, aS])
                          refine rg_take (i := 32) (v := .bool false) rfl (by kernel_rfl) (by kernel_rfl) (by kernel_rfl) (fun _ _ _ h => h) rfl (by assumption) ?_ ?_
                          · intro w hSw; (go_simp; first | done | with_reducible rfl | rfl | omega | assumption | (simp; omega))
                          (try simp only [Act.put, aP, aZ, aS])
                          refine rg_take (i := 33) (v := .bool false) rfl (by kernel_rfl) (by kernel_rfl) (by kernel_rfl) (fun _ _ _ h => h) rfl (by assumption) ?_ ?_
                          · intro w hSw; (go_simp; first | done | with_reducible rfl | rfl | omega | assumption | (simp; omega))
                          (try simp only [Act.put, aP, aZ, aS])
                          refine rg_skip (i := 34) rfl (by kernel_rfl) (by kernel_rfl) (by kernel_rfl) (fun _ _ _ h => h) (by kernel_rfl) (by assumption) ?_
                          (try simp only [Act.put, aP, aZ, aS])
                          refine rg_skip (i := 35) rfl (by kernel_rfl) (by kernel_rfl) (by kernel_rfl) (fun _ _ _ h => h) (by kernel_rfl) (by assumption) ?_
                          (try simp only [Act.put, aP, aZ, aS])
                          refine rg_skip (i := 36) rfl (by kernel_rfl) (by kernel_rfl) (by kernel_rfl) (fun _ _ _ h => h) (by kernel_rfl) (by assumption) ?_
                          (try simp only [Act.put, aP, aZ, aS])
                          refine rg_skip (i := 37) rfl (by kernel_rfl) (by kernel_rfl) (by kernel_rfl) (fun _ _ _ h => h) (by kernel_rfl) (by assumption) ?_
                          (try simp only [Act.put, aP, aZ, aS])
                          refine rg_skip (i := 38) rfl (by kernel_rfl) (by kernel_rfl) (by kernel_rfl) (fun _ _ _ h => h) (by kernel_rfl) (by assumption) ?_
                          (try simp only [Act.put, aP, aZ, aS])
                          refine rg_skip (i := 39) rfl (by kernel_rfl) (by kernel_rfl) (by kernel_rfl) (fun _ _ _ h => h) (by kernel_rfl) (by assumption) ?_
                          (try simp only [Act.put, aP, aZ, aS])
                          refine rg_take (i := 40) (v := .bool false) rfl (by kernel_rfl) (by kernel_rfl) (by kernel_rfl) (fun _ _ _ h => h) rfl (by assumption) ?_ ?_
                          · intro w hSw; (go_simp; first | done | with_reducible rfl | rfl | omega | assumption | (simp; omega))
                          (try simp only [Act.put, aP, aZ, aS])
                          refine rg_take (i := 41) (v := .bool false) rfl (by kernel_rfl) (by kernel_rfl) (by kernel_rfl) (fun _ _ _ h => h) rfl (by assumption) ?_ ?_
                          · intro w hSw; (go_simp; first | done | with_reducible rfl | rfl | omega | assumption | (simp; omega))
                          (try simp only [Act.put, aP, aZ, aS])
                          refine rg_skip (i := 42) rfl (by kernel_rfl) (by kernel_rfl) (by kernel_rfl) (fun _ _ _ h => h) (by kernel_rfl) (by assumption) ?_
                          (try simp only [Act.put, aP, aZ, aS])
                          refine rg_skip (i := 43) rfl (by kernel_rfl) (by kernel_rfl) (by kernel_rfl) (fun _ _ _ h => h) (by kernel_rfl) (by assumption) ?_
                          (try simp only [Act.put, aP, aZ, aS])
                          refine rg_skip (i := 44) rfl (by kernel_rfl) (by kernel_rfl) (by kernel_rfl) (fun _ _ _ h => h) (by kernel_rfl) (by assumption) ?_
                          (try simp only [Act.put, aP, aZ, aS])
                          refine rg_skip (i := 45) rfl (by kernel_rfl) (by kernel_rfl) (by kernel_rfl) (fun _ _ _ h => h) (by kernel_rfl) (by assumption) ?_
                          (try simp only [Act.put, aP, aZ, aS])
                          refine rg_skip (i := 46) rfl (by kernel_rfl) (by kernel_rfl) (by kernel_rfl) (fun _ _ _ h => h) (by kernel_rfl) (by assumption) ?_
                          (try simp only [Act.put, aP, aZ, aS])
                          refine rg_skip (i := 47) rfl (by kernel_rfl) (by kernel_rfl) (by kernel_rfl) (fun _ _ _ h => h) (by kernel_rfl) (by assumption) ?_
                          (try simp only [Act.put, aP, aZ, aS])
                          refine rg_skip (i := 48) rfl (by kernel_rfl) (by kernel_rfl) (by kernel_rfl) (fun _ _ _ h => h) (by kernel_rfl) (by assumption) ?_
                          (try simp only [Act.put, aP, aZ, aS])
                          refine rg_skip (i := 49) rfl (by kernel_rfl) (by kernel_rfl) (by kernel_rfl) (fun _ _ _ h => h) (by kernel_rfl) (by assumption) ?_
                          (try simp only [Act.put, aP, aZ, aS])
                          refine rg_skip (i := 50) rfl (by kernel_rfl) (by kernel_rfl) (by kernel_rfl) (fun _ _ _ h => h) (by kernel_rfl) (by assumption) ?_
                          (try simp only [Act.put, aP, aZ, aS])
                          refine rg_take (i := 51) (v := .bool false) rfl (by kernel_rfl) (by kernel_rfl) (by kernel_rfl) (fun _ _ _ h => h) rfl (by assumption) ?_ ?_
                          · intro w hSw; (go_simp; first | done | with_reducible rfl | rfl | omega | assumption | (simp; omega))
                          (try simp only [Act.put, aP, aZ, aS])
                          refine rg_take (i := 52) (v := .bool false) rfl (by kernel_rfl) (by kernel_rfl) (by kernel_rfl) (fun _ _ _ h => h) rfl (by assumption) ?_ ?_
                          · intro w hSw; (go_simp; first | done | with_reducible rfl | rfl | omega | assumption | (simp; omega))
                          (try simp only [Act.put, aP, aZ, aS])
                          refine rg_done (by kernel_rfl) ?_
                          refine (by assumption : ∀ a' w', Met _ a' w' → _) _ _ ?_
                          go_meet
                          case rel => exact ⟨congrArg Value.bool (by rw [← HO.out]; first | exact (decide_eq_true (by omega)).symm | exact (decide_eq_false (by omega)).symm), (by assumption : Sat w0 _ _).pick (by (repeat (first | exact Pick.nil _ | exact Pick.tail _ | exact Out.here _ | apply Out.there | apply Pick.cons | apply Pick.drop)))⟩
                    · refine rg_take (i := 16) (v := .bool false) rfl (by kernel_rfl) (by kernel_rfl) (by kernel_rfl) (fun _ _ _ h => h) (by kernel_rfl) (by assumption) ?_ ?_
                      · intro w hSw; (go_simp; first | done | with_reducible rfl | rfl | omega | assumption | (simp; omega))
                      (try simp only [Act.put, aP, aZ, aS])
                      refine rg_take (i := 17) (v := .bool false) rfl (by kernel_rfl) (by kernel_rfl) (by kernel_rfl) (fun _ _ _ h => h) rfl (by assumption) ?_ ?_
                      · intro w hSw; (go_simp; first | done | with_reducible rfl | rfl | omega | assumption | (simp; omega))
                      (try simp only [Act.put, aP, aZ, aS])
                      refine rg_take (i := 18) (v := .bool false) rfl (by kernel_rfl) (by kernel_rfl) (by kernel_rfl) (fun _ _ _ h => h) rfl (by assumption) ?_ ?_
                      · intro w hSw; (go_simp; first | done | with_reducible rfl | rfl | omega | assumption | (simp; omega))
                      (try simp only [Act.put, aP, aZ, aS])
                      refine rg_skip (i := 19) rfl (by kernel_rfl) (by kernel_rfl) (by kernel_rfl) (fun _ _ _ h => h) (by kernel_rfl) (by assumption) ?_
                      (try simp only [Act.put, aP, aZ, aS])
                      refine rg_skip (i := 20) rfl (by kernel_rfl) (by kernel_rfl) (by kernel_rfl) (fun _ _ _ h => h) (by kernel_rfl) (by assumption) ?_
                      (try simp only [Act.put, aP, aZ, aS])
                      refine rg_skip (i := 21) rfl (by kernel_rfl) (by kernel_rfl) (by kernel_rfl) (fun _ _ _ h => h) (by kernel_rfl) (by assumption) ?_
                      (try simp only [Act.put, aP, aZ, aS])
                      refine rg_skip (i := 22) rfl (by kernel_rfl) (by kernel_rfl) (by kernel_rfl) (fun _ _ _ h => h) (by kernel_rfl) (by assumption) ?_
                      (try simp only [Act.put, aP, aZ, aS])
                      refine rg_skip (i := 23) rfl (by kernel_rfl) (by kernel_rfl) (by kernel_rfl) (fun _ _ _ h => h) (by kernel_rfl) (by assumption) ?_
                      (try simp only [Act.put, aP, aZ, aS])
                      refine rg_skip (i := 24) rfl (by kernel_rfl) (by kernel_rfl) (by kernel_rfl) (fun _ _ _ h => h) (by kernel_rfl) (by assumption) ?_
                      (try simp only [Act.put, aP, aZ, aS])
                      refine rg_skip (i := 25) rfl (by kernel_rfl) (by kernel_rfl) (by kernel_rfl) (fun _ _ _ h => h) (by kernel_rfl) (by assumption) ?_
                      (try simp only [Act.put, aP, aZ, aS])
                      refine rg_skip (i := 26) rfl (by kernel_rfl) (by kernel_rfl) (by kernel_rfl) (fun _ _ _ h => h) (by kernel_rfl) (by assumption) ?_
                      (try simp only [Act.put, aP, aZ, aS])
                      refine rg_skip (i := 27) rfl (by kernel_rfl) (by kernel_rfl) (by kernel_rfl) (fun _ _ _ h => h) (by kernel_rfl) (by assumption) ?_
                      (try simp only [Act.put, aP, aZ, aS])
                      refine rg_skip (i := 28) rfl (by kernel_rfl) (by kernel_rfl) (by kernel_rfl) (fun _ _ _ h => h) (by kernel_rfl) (by assumption) ?_
                      (try simp only [Act.put, aP, aZ, aS])
                      refine rg_skip (i := 29) rfl (by kernel_rfl) (by kernel_rfl) (by kernel_rfl) (fun _ _ _ h => h) (by kernel_rfl) (by assumption) ?_
                      (try simp only [Act.put, aP, aZ, aS])
                      refine rg_skip (i := 30) rfl (by kernel_rfl) (by kernel_rfl) (by kernel_rfl) (fun _ _ _ h => h) (by kernel_rfl) (by assumption) ?_
                      (try simp only [Act.put, aP, aZ, aS])
                      refine rg_skip (i := 31) rfl (by kernel_rfl) (by kernel_rfl) (by kernel_rfl) (fun _ _ _ h => h) (by kernel_rfl) (by assumption) ?_
                      (try simp only [Act.put, aP, aZ, aS])
                      refine rg_take (i := 32) (v := .bool false) rfl (by kernel_rfl) (by kernel_rfl) (by kernel_rfl) (fun _ _ _ h => h) rfl (by assumption) ?_ ?_
                      · intro w hSw; (go_simp; first | done | with_reducible rfl | rfl | omega | assumption | (simp; omega))
                      (try simp only [Act.put, aP, aZ, aS])
                      refine rg_take (i := 33) (v := .bool false) rfl (by kernel_rfl) (by kernel_rfl) (by kernel_rfl) (fun _ _ _ h => h) rfl (by assumption) ?_ ?_
                      · intro w hSw; (go_simp; first | done | with_reducible rfl | rfl | omega | assumption | (simp; omega))
                      (try simp only [Act.put, aP, aZ, aS])
                      refine rg_skip (i := 34) rfl (by kernel_rfl) (by kernel_rfl) (by kernel_rfl) (fun _ _ _ h => h) (by kernel_rfl) (by assumption) ?_
                      (try simp only [Act.put, aP, aZ, aS])
                      refine rg_skip (i := 35) rfl (by kernel_rfl) (by kernel_rfl) (by kernel_rfl) (fun _ _ _ h => h) (by kernel_rfl) (by assumption) ?_
                      (try simp only [Act.put, aP, aZ, aS])
                      refine rg_skip (i := 36) rfl (by kernel_rfl) (by kernel_rfl) (by kernel_rfl) (fun _ _ _ h => h) (by kernel_rfl) (by assumption) ?_
                      (try simp only [Act.put, aP, aZ, aS])
                      refine rg_skip (i := 37) rfl (by kernel_rfl) (by kernel_rfl) (by kernel_rfl) (fun _ _ _ h => h) (by kernel_rfl) (by assumption) ?_
                      (try simp only [Act.put, aP, aZ, aS])
                      refine rg_skip (i := 38) rfl (by kernel_rfl) (by kernel_rfl) (by kernel_rfl) (fun _ _ _ h => h) (by kernel_rfl) (by assumption) ?_
                      (try simp only [Act.put, aP, aZ, aS])
                      refine rg_skip (i := 39) rfl (by kernel_rfl) (by kernel_rfl) (by kernel_rfl) (fun _ _ _ h => h) (by kernel_rfl) (by assumption) ?_
                      (try simp only [Act.put, aP, aZ, aS])
                      refine rg_take (i := 40) (v := .bool false) rfl (by kernel_rfl) (by kernel_rfl) (by kernel_rfl) (fun _ _ _ h => h) rfl (by assumption) ?_ ?_
                      · intro w hSw; (go_simp; first | done | with_reducible rfl | rfl | omega | assumption | (simp; omega))
                      (try simp only [Act.put, aP, aZ, aS])
                      refine rg_take (i := 41) (v := .bool false) rfl (by kernel_rfl) (by kernel_rfl) (by kernel_rfl) (fun _ _ _ h => h) rfl (by assumption) ?_ ?_
                      · intro w hSw; (go_simp; first | done | with_reducible rfl | rfl | omega | assumption | (simp; omega))
                      (try simp only [Act.put, aP, aZ, aS])
                      refine rg_skip (i := 42) rfl (by kernel_rfl) (by kernel_rfl) (by kernel_rfl) (fun _ _ _ h => h) (by kernel_rfl) (by assumption) ?_
                      (try simp only [Act.put, aP, aZ, aS])
                      refine rg_skip (i := 43) rfl (by kernel_rfl) (by kernel_rfl) (by kernel_rfl) (fun _ _ _ h => h) (by kernel_rfl) (by assumption) ?_
                      (try simp only [Act.put, aP, aZ, aS])
                      refine rg_skip (i := 44) rfl (by kernel_rfl) (by kernel_rfl) (by kernel_rfl) (fun _ _ _ h => h) (by kernel_rfl) (by assumption) ?_
                      (try simp only [Act.put, aP, aZ, aS])
                      refine rg_skip (i := 45) rfl (by kernel_rfl) (by kernel_rfl) (by kernel_rfl) (fun _ _ _ h => h) (by kernel_rfl) (by assumption) ?_
                      (try simp only [Act.put, aP, aZ, aS])
                      refine rg_skip (i := 46) rfl (by kernel_rfl) (by kernel_rfl) (by kernel_rfl) (fun _ _ _ h => h) (by kernel_rfl) (by assumption) ?_
                      (try simp only [Act.put, aP, aZ, aS])
                      refine rg_skip (i := 47) rfl (by kernel_rfl) (by kernel_rfl) (by kernel_rfl) (fun _ _ _ h => h) (by kernel_rfl) (by assumption) ?_
                      (try simp only [Act.put, aP, aZ, aS])
                      refine rg_skip (i := 48) rfl (by kernel_rfl) (by kernel_rfl) (by kernel_rfl) (fun _ _ _ h => h) (by kernel_rfl) (by assumption) ?_
                      (try simp only [Act.put, aP, aZ, aS])
                      refine rg_skip (i := 49) rfl (by kernel_rfl) (by kernel_rfl) (by kernel_rfl) (fun _ _ _ h => h) (by kernel_rfl) (by assumption) ?_
                      (try simp only [Act.put, aP, aZ, aS])
                      refine rg_skip (i := 50) rfl (by kernel_rfl) (by kernel_rfl) (by kernel_rfl) (fun _ _ _ h => h) (by kernel_rfl) (by assumption) ?_
                      (try simp only [Act.put, aP, aZ, aS])
                      refine rg_take (i := 51) (v := .bool false) rfl (by kernel_rfl) (by kernel_rfl) (by kernel_rfl) (fun _ _ _ h => h) rfl (by assumption) ?_ ?_
                      · intro w hSw; (go_simp; first | done | with_reducible rfl | rfl | omega | assumption | (simp; omega))
                      (try simp only [Act.put, aP, aZ, aS])
                      refine rg_take (i := 52) (v := .bool false) rfl (by kernel_rfl) (by kernel_rfl) (by kernel_rfl) (fun _ _ _ h => h) rfl (by assumption) ?_ ?_
                      · intro w hSw; (go_simp; first | done | with_reducible rfl | rfl | omega | assumption | (simp; omega))
                      (try simp only [Act.put, aP, aZ, aS])
                      refine rg_done (by kernel_rfl) ?_
                      refine (by assumption : ∀ a' w', Met _ a' w' → _) _ _ ?_
                      go_meet
                      case rel => exact ⟨congrArg Value.bool (by rw [← HO.out]; first | exact (decide_eq_true (by omega)).symm | exact (decide_eq_false (by omega)).symm), (by assumption : Sat w0 _ _).pick (by (repeat (first | exact Pick.nil _ | exact Pick.tail _ | exact Out.here _ | apply Out.there | apply Pick.cons | apply Pick.drop)))⟩
                  · refine rg_take (i := 9) (v := .bool false) rfl (by kernel_rfl) (by kernel_rfl) (by kernel_rfl) (fun _ _ _ h => h) (by kernel_rfl) (by assumption) ?_ ?_
                    · intro w hSw; (go_simp; first | done | with_reducible rfl | rfl | omega | assumption | (simp; omega))
                    (try simp only [Act.put, aP, aZ, aS])
                    refine rg_take (i := 10) (v := .bool false) rfl (by kernel_rfl) (by kernel_rfl) (by kernel_rfl) (fun _ _ _ h => h) rfl (by assumption) ?_ ?_
                    · intro w hSw; (go_simp; first | done | with_reducible rfl | rfl | omega | assumption | (simp; omega))
                    (try simp only [Act.put, aP, aZ, aS])
                    refine rg_take (i := 11) (v := .bool false) rfl (by kernel_rfl) (by kernel_rfl) (by kernel_rfl) (fun _ _ _ h => h) rfl (by assumption) ?_ ?_
                    · intro w hSw; (go_simp; first | done | with_reducible rfl | rfl | omega | assumption | (simp; omega))
                    (try simp only [Act.put, aP, aZ, aS])
                    refine rg_skip (i := 12) rfl (by kernel_rfl) (by kernel_rfl) (by kernel_rfl) (fun _ _ _ h => h) (by kernel_rfl) (by assumption) ?_
                    (try simp only [Act.put, aP, aZ, aS])
                    refine rg_skip (i := 13) rfl (by kernel_rfl) (by kernel_rfl) (by kernel_rfl) (fun _ _ _ h => h) (by kernel_rfl) (by assumption) ?_
                    (try simp only [Act.put, aP, aZ, aS])
                    refine rg_skip (i := 14) rfl (by kernel_rfl) (by kernel_rfl) (by kernel_rfl) (fun _ _ _ h => h) (by kernel_rfl) (by assumption) ?_
                    (try simp only [Act.put, aP, aZ, aS])
                    refine rg_skip (i := 15) rfl (by kernel_rfl) (by kernel_rfl) (by kernel_rfl) (fun _ _ _ h => h) (by kernel_rfl) (by assumption) ?_
                    (try simp only [Act.put, aP, aZ, aS])
                    refine rg_skip (i := 16) rfl (by kernel_rfl) (by kernel_rfl) (by kernel_rfl) (fun _ _ _ h => h) (by kernel_rfl) (by assumption) ?_
                    (try simp only [Act.put, aP, aZ, aS])
                    refine rg_take (i := 17) (v := .bool false) rfl (by kernel_rfl) (by kernel_rfl) (by kernel_rfl) (fun _ _ _ h => h) rfl (by assumption) ?_ ?_
                    · intro w hSw; (go_simp; first | done | with_reducible rfl | rfl | omega | assumption | (simp; omega))
                    (try simp only [Act.put, aP, aZ, aS])
                    refine rg_take (i := 18) (v := .bool false) rfl (by kernel_rfl) (by kernel_rfl) (by kernel_rfl) (fun _ _ _ h => h) rfl (by assumption) ?_ ?_
                    · intro w hSw; (go_simp; first | done | with_reducible rfl | rfl | omega | assumption | (simp; omega))
                    (try simp only [Act.put, aP, aZ, aS])
                    refine rg_skip (i := 19) rfl (by kernel_rfl) (by kernel_rfl) (by kernel_rfl) (fun _ _ _ h => h) (by kernel_rfl) (by assumption) ?_
                    (try simp only [Act.put, aP, aZ, aS])
                    refine rg_skip (i := 20) rfl (by kernel_rfl) (by kernel_rfl) (by kernel_rfl) (fun _ _ _ h => h) (by kernel_rfl) (by assumption) ?_
                    (try simp only [Act.put, aP, aZ, aS])
                    refine rg_skip (i := 21) rfl (by kernel_rfl) (by kernel_rfl) (by kernel_rfl) (fun _ _ _ h => h) (by kernel_rfl) (by assumption) ?_
                    (try simp only [Act.put, aP, aZ, aS])
                    refine rg_skip (i := 22) rfl (by kernel_rfl) (by kernel_rfl) (by kernel_rfl) (fun _ _ _ h => h) (by kernel_rfl) (by assumption) ?_
                    (try simp only [Act.put, aP, aZ, aS])
                    refine rg_skip (i := 23) rfl (by kernel_rfl) (by kernel_rfl) (by kernel_rfl) (fun _ _ _ h => h) (by kernel_rfl) (by assumption) ?_
                    (try simp only [Act.put, aP, aZ, aS])
                    refine rg_skip (i := 24) rfl (by kernel_rfl) (by kernel_rfl) (by kernel_rfl) (fun _ _ _ h => h) (by kernel_rfl) (by assumption) ?_
                    (try simp only [Act.put, aP, aZ, aS])
                    refine rg_skip (i := 25) rfl (by kernel_rfl) (by kernel_rfl) (by kernel_rfl) (fun _ _ _ h => h) (by kernel_rfl) (by assumption) ?_
                    (try simp only [Act.put, aP, aZ, aS])
                    refine rg_skip (i := 26) rfl (by kernel_rfl) (by kernel_rfl) (by kernel_rfl) (fun _ _ _ h => h) (by kernel_rfl) (by assumption) ?_
                    (try simp only [Act.put, aP, aZ, aS])
                    refine rg_skip (i := 27) rfl (by kernel_rfl) (by kernel_rfl) (by kernel_rfl) (fun _ _ _ h => h) (by kernel_rfl) (by assumption) ?_
                    (try simp only [Act.put, aP, aZ, aS])
                    refine rg_skip (i := 28) rfl (by kernel_rfl) (by kernel_rfl) (by kernel_rfl) (fun _ _ _ h => h) (by kernel_rfl) (by assumption) ?_
                    (try simp only [Act.put, aP, aZ, aS])
                    refine rg_skip (i := 29) rfl (by kernel_rfl) (by kernel_rfl) (by kernel_rfl) (fun _ _ _ h => h) (by kernel_rfl) (by assumption) ?_
                    (try simp only [Act.put, aP, aZ, aS])
                    refine rg_skip (i := 30) rfl (by kernel_rfl) (by kernel_rfl) (by kernel_rfl) (fun _ _ _ h => h) (by kernel_rfl) (by assumption) ?_
                    (try simp only [Act.put, aP, aZ, aS])
                    refine rg_skip (i := 31) rfl (by kernel_rfl) (by kernel_rfl) (by kernel_rfl) (fun _ _ _ h => h) (by kernel_rfl) (by assumption) ?_
                    (try simp only [Act.put, aP, aZ, aS])
                    refine rg_take (i := 32) (v := .bool false) rfl (by kernel_rfl) (by kernel_rfl) (by kernel_rfl) (fun _ _ _ h => h) rfl (by assumption) ?_ ?_
                    · intro w hSw; (go_simp; first | done | with_reducible rfl | rfl | omega | assumption | (simp; omega))
                    (try simp only [Act.put, aP, aZ, aS])
                    refine rg_take (i := 33) (v := .bool false) rfl (by kernel_rfl) (by kernel_rfl) (by kernel_rfl) (fun _ _ _ h => h) rfl (by assumption) ?_ ?_
                    · intro w hSw; (go_simp; first | done | with_reducible rfl | rfl | omega | assumption | (simp; omega))
                    (try simp only [Act.put, aP, aZ, aS])
                    refine rg_skip (i := 34) rfl (by kernel_rfl) (by kernel_rfl) (by kernel_rfl) (fun _ _ _ h => h) (by kernel_rfl) (by assumption) ?_
                    (try simp only [Act.put, aP, aZ, aS])
                    refine rg_skip (i := 35) rfl (by kernel_rfl) (by kernel_rfl) (by kernel_rfl) (fun _ _ _ h => h) (by kernel_rfl) (by assumption) ?_
                    (try simp only [Act.put, aP, aZ, aS])
                    refine rg_skip (i := 36) rfl (by kernel_rfl) (by kernel_rfl) (by kernel_rfl) (fun _ _ _ h => h) (by kernel_rfl) (by assumption) ?_
                    (try simp only [Act.put, aP, aZ, aS])
                    refine rg_skip (i := 37) rfl (by kernel_rfl) (by kernel_rfl) (by kernel_rfl) (fun _ _ _ h => h) (by kernel_rfl) (by assumption) ?_
                    (try simp only [Act.put, aP, aZ, aS])
                    refine rg_skip (i := 38) rfl (by kernel_rfl) (by kernel_rfl) (by kernel_rfl) (fun _ _ _ h => h) (by kernel_rfl) (by assumption) ?_
                    (try simp only [Act.put, aP, aZ, aS])
                    refine rg_skip (i := 39) rfl (by kernel_rfl) (by kernel_rfl) (by kernel_rfl) (fun _ _ _ h => h) (by kernel_rfl) (by assumption) ?_
                    (try simp only [Act.put, aP, aZ, aS])
                    refine rg_take (i := 40) (v := .bool false) rfl (by kernel_rfl) (by kernel_rfl) (by kernel_rfl) (fun _ _ _ h => h) rfl (by assumption) ?_ ?_
                    · intro w hSw; (go_simp; first | done | with_reducible rfl | rfl | omega | assumption | (simp; omega))
                    (try simp only [Act.put, aP, aZ, aS])
                    refine rg_take (i := 41) (v := .bool false) rfl (by kernel_rfl) (by kernel_rfl) (by kernel_rfl) (fun _ _ _ h => h) rfl (by assumption) ?_ ?_
                    · intro w hSw; (go_simp; first | done | with_reducible rfl | rfl | omega | assumption | (simp; omega))
                    (try simp only [Act.put, aP, aZ, aS])
                    refine rg_skip (i := 42) rfl (by kernel_rfl) (by kernel_rfl) (by kernel_rfl) (fun _ _ _ h => h) (by kernel_rfl) (by assumption) ?_
                    (try simp only [Act.put, aP, aZ, aS])
                    refine rg_skip (i := 43) rfl (by kernel_rfl) (by kernel_rfl) (by kernel_rfl) (fun _ _ _ h => h) (by kernel_rfl) (by assumption) ?_
                    (try simp only [Act.put, aP, aZ, aS])
                    refine rg_skip (i := 44) rfl (by kernel_rfl) (by kernel_rfl) (by kernel_rfl) (fun _ _ _ h => h) (by kernel_rfl) (by assumption) ?_
                    (try simp only [Act.put, aP, aZ, aS])
                    refine rg_skip (i := 45) rfl (by kernel_rfl) (by kernel_rfl) (by kernel_rfl) (fun _ _ _ h => h) (by kernel_rfl) (by assumption) ?_
                    (try simp only [Act.put, aP, aZ, aS])
                    refine rg_skip (i := 46) rfl (by kernel_rfl) (by kernel_rfl) (by kernel_rfl) (fun _ _ _ h => h) (by kernel_rfl) (by assumption) ?_
                    (try simp only [Act.put, aP, aZ, aS])
                    refine rg_skip (i := 47) rfl (by kernel_rfl) (by kernel_rfl) (by kernel_rfl) (fun _ _ _ h => h) (by kernel_rfl) (by assumption) ?_
                    (try simp only [Act.put, aP, aZ, aS])
                    refine rg_skip (i := 48) rfl (by kernel_rfl) (by kernel_rfl) (by kernel_rfl) (fun _ _ _ h => h) (by kernel_rfl) (by assumption) ?_
                    (try simp only [Act.put, aP, aZ, aS])
                    refine rg_skip (i := 49) rfl (by kernel_rfl) (by kernel_rfl) (by kernel_rfl) (fun _ _ _ h => h) (by kernel_rfl) (by assumption) ?_
                    (try simp only [Act.put, aP, aZ, aS])
                    refine rg_skip (i := 50) rfl (by kernel_rfl) (by kernel_rfl) (by kernel_rfl) (fun _ _ _ h => h) (by kernel_rfl) (by assumption) ?_
                    (try simp only [Act.put, aP, aZ, aS])
                    refine rg_take (i := 51) (v := .bool false) rfl (by kernel_rfl) (by kernel_rfl) (by kernel_rfl) (fun _ _ _ h => h) rfl (by assumption) ?_ ?_
                    · intro w hSw; (go_simp; first | done | with_reducible rfl | rfl | omega | assumption | (simp; omega))
                    (try simp only [Act.put, aP, aZ, aS])
                    refine rg_take (i := 52) (v := .bool false) rfl (by kernel_rfl) (by kernel_rfl) (by kernel_rfl) (fun _ _ _ h => h) rfl (by assumption) ?_ ?_
                    · intro w hSw; (go_simp; first | done | with_reducible rfl | rfl | omega | assumption | (simp; omega))
                    (try simp only [Act.put, aP, aZ, aS])
                    refine rg_done (by kernel_rfl) ?_
                    refine (by assumption : ∀ a' w', Met _ a' w' → _) _ _ ?_
                    go_meet
                    case rel => exact ⟨congrArg Value.bool (by rw [← HO.out]; first | exact (decide_eq_true (by omega)).symm | exact (decide_eq_false (by omega)).symm), (by assumption : Sat w0 _ _).pick (by (repeat (first | exact Pick.nil _ | exact Pick.tail _ | exact Out.here _ | apply Out.there | apply Pick.cons | apply Pick.drop)))⟩
                · refine rg_take (i := 2) (v := .bool false) rfl (by kernel_rfl) (by kernel_rfl) (by kernel_rfl) (fun _ _ _ h => h) rfl (by assumption) ?_ ?_
                  · intro w hSw; (go_simp; first | done | with_reducible rfl | rfl | omega | assumption | (simp; omega))
                  (try simp only [Act.put, aP, aZ, aS])
                  refine rg_take (i := 3) (v := .bool false) rfl (by kernel_rfl) (by kernel_rfl) (by kernel_rfl) (fun _ _ _ h => h) rfl (by assumption) ?_ ?_
                  · intro w hSw; (go_simp; first | done | with_reducible rfl | rfl | omega | assumption | (simp; omega))
                  (try simp only [Act.put, aP, aZ, aS])
                  refine rg_skip (i := 4) rfl (by kernel_rfl) (by kernel_rfl) (by kernel_rfl) (fun _ _ _ h => h) (by kernel_rfl) (by assumption) ?_
                  (try simp only [Act.put, aP, aZ, aS])
                  refine rg_skip (i := 5) rfl (by kernel_rfl) (by kernel_rfl) (by kernel_rfl) (fun _ _ _ h => h) (by kernel_rfl) (by assumption) ?_
                  (try simp only [Act.put, aP, aZ, aS])
                  refine rg_skip (i := 6) rfl (by kernel_rfl) (by kernel_rfl) (by kernel_rfl) (fun _ _ _ h => h) (by kernel_rfl) (by assumption) ?_
                  (try simp only [Act.put, aP, aZ, aS])
                  refine rg_skip (i := 7) rfl (by kernel_rfl) (by kernel_rfl) (by kernel_rfl) (fun _ _ _ h => h) (by kernel_rfl) (by assumption) ?_
                  (try simp only [Act.put, aP, aZ, aS])
                  refine rg_skip (i := 8) rfl (by kernel_rfl) (by kernel_rfl) (by kernel_rfl) (fun _ _ _ h => h) (by kernel_rfl) (by assumption) ?_
                  (try simp only [Act.put, aP, aZ, aS])
                  refine rg_skip (i := 9) rfl (by kernel_rfl) (by kernel_rfl) (by kernel_rfl) (fun _ _ _ h => h) (by kernel_rfl) (by assumption) ?_
                  (try simp only [Act.put, aP, aZ, aS])
                  refine rg_take (i := 10) (v := .bool false) rfl (by kernel_rfl) (by kernel_rfl) (by kernel_rfl) (fun _ _ _ h => h) rfl (by assumption) ?_ ?_
                  · intro w hSw; (go_simp; first | done | with_reducible rfl | rfl | omega | assumption | (simp; omega))
                  (try simp only [Act.put, aP, aZ, aS])
                  refine rg_take (i := 11) (v := .bool false) rfl (by kernel_rfl) (by kernel_rfl) (by kernel_rfl) (fun _ _ _ h => h) rfl (by assumption) ?_ ?_
                  · intro w hSw; (go_simp; first | done | with_reducible rfl | rfl | omega | assumption | (simp; omega))
                  (try simp only [Act.put, aP, aZ, aS])
                  refine rg_skip (i := 12) rfl (by kernel_rfl) (by kernel_rfl) (by kernel_rfl) (fun _ _ _ h => h) (by kernel_rfl) (by assumption) ?_
                  (try simp only [Act.put, aP, aZ, aS])
                  refine rg_skip (i := 13) rfl (by kernel_rfl) (by kernel_rfl) (by kernel_rfl) (fun _ _ _ h => h) (by kernel_rfl) (by assumption) ?_
                  (try simp only [Act.put, aP, aZ, aS])
                  refine rg_skip (i := 14) rfl (by kernel_rfl) (by kernel_rfl) (by kernel_rfl) (fun _ _ _ h => h) (by kernel_rfl) (by assumption) ?_
                  (try simp only [Act.put, aP, aZ, aS])
                  refine rg_skip (i := 15) rfl (by kernel_rfl) (by kernel_rfl) (by kernel_rfl) (fun _ _ _ h => h) (by kernel_rfl) (by assumption) ?_
                  (try simp only [Act.put, aP, aZ, aS])
                  refine rg_skip (i := 16) rfl (by kernel_rfl) (by kernel_rfl) (by kernel_rfl) (fun _ _ _ h => h) (by kernel_rfl) (by assumption) ?_
                  (try simp only [Act.put, aP, aZ, aS])
                  refine rg_take (i := 17) (v := .bool false) rfl (by kernel_rfl) (by kernel_rfl) (by kernel_rfl) (fun _ _ _ h => h) rfl (by assumption) ?_ ?_
                  · intro w hSw; (go_simp; first | done | with_reducible rfl | rfl | omega | assumption | (simp; omega))
                  (try simp only [Act.put, aP, aZ, aS])
                  refine rg_take (i := 18) (v := .bool false) rfl (by kernel_rfl) (by kernel_rfl) (by kernel_rfl) (fun _ _ _ h => h) rfl (by assumption) ?_ ?_
                  · intro w hSw; (go_simp; first | done | with_reducible rfl | rfl | omega | assumption | (simp; omega))
                  (try simp only [Act.put, aP, aZ, aS])
                  refine rg_skip (i := 19) rfl (by kernel_rfl) (by kernel_rfl) (by kernel_rfl) (fun _ _ _ h => h) (by kernel_rfl) (by assumption) ?_
                  (try simp only [Act.put, aP, aZ, aS])
                  refine rg_skip (i := 20) rfl (by kernel_rfl) (by kernel_rfl) (by kernel_rfl) (fun _ _ _ h => h) (by kernel_rfl) (by assumption) ?_
                  (try simp only [Act.put, aP, aZ, aS])
                  refine rg_skip (i := 21) rfl (by kernel_rfl) (by kernel_rfl) (by kernel_rfl) (fun _ _ _ h => h) (by kernel_rfl) (by assumption) ?_
                  (try simp only [Act.put, aP, aZ, aS])
                  refine rg_skip (i := 22) rfl (by kernel_rfl) (by kernel_rfl) (by kernel_rfl) (fun _ _ _ h => h) (by kernel_rfl) (by assumption) ?_
                  (try simp only [Act.put, aP, aZ, aS])
                  refine rg_skip (i := 23) rfl (by kernel_rfl) (by kernel_rfl) (by kernel_rfl) (fun _ _ _ h => h) (by kernel_rfl) (by assumption) ?_
                  (try simp only [Act.put, aP, aZ, aS])
                  refine rg_skip (i := 24) rfl (by kernel_rfl) (by kernel_rfl) (by kernel_rfl) (fun _ _ _ h => h) (by kernel_rfl) (by assumption) ?_
                  (try simp only [Act.put, aP, aZ, aS])
                  refine rg_skip (i := 25) rfl (by kernel_rfl) (by kernel_rfl) (by kernel_rfl) (fun _ _ _ h => h) (by kernel_rfl) (by assumption) ?_
                  (try simp only [Act.put, aP, aZ, aS])
                  refine rg_skip (i := 26) rfl (by kernel_rfl) (by kernel_rfl) (by kernel_rfl) (fun _ _ _ h => h) (by kernel_rfl) (by assumption) ?_
                  (try simp only [Act.put, aP, aZ, aS])
                  refine rg_skip (i := 27) rfl (by kernel_rfl) (by kernel_rfl) (by kernel_rfl) (fun _ _ _ h => h) (by kernel_rfl) (by assumption) ?_
                  (try simp only [Act.put, aP, aZ, aS])
                  refine rg_skip (i := 28) rfl (by kernel_rfl) (by kernel_rfl) (by kernel_rfl) (fun _ _ _ h => h) (by kernel_rfl) (by assumption) ?_
                  (try simp only [Act.put, aP, aZ, aS])
                  refine rg_skip (i := 29) rfl (by kernel_rfl) (by kernel_rfl) (by kernel_rfl) (fun _ _ _ h => h) (by kernel_rfl) (by assumption) ?_
                  (try simp only [Act.put, aP, aZ, aS])
                  refine rg_skip (i := 30) rfl (by kernel_rfl) (by kernel_rfl) (by kernel_rfl) (fun _ _ _ h => h) (by kernel_rfl) (by assumption) ?_
                  (try simp only [Act.put, aP, aZ, aS])
                  refine rg_skip (i := 31) rfl (by kernel_rfl) (by kernel_rfl) (by kernel_rfl) (fun _ _ _ h => h) (by kernel_rfl) (by assumption) ?_
                  (try simp only [Act.put, aP, aZ, aS])
                  refine rg_take (i := 32) (v := .bool false) rfl (by kernel_rfl) (by kernel_rfl) (by kernel_rfl) (fun _ _ _ h => h) rfl (by assumption) ?_ ?_
                  · intro w hSw; (go_simp; first | done | with_reducible rfl | rfl | omega | assumption | (simp; omega))
                  (try simp only [Act.put, aP, aZ, aS])
                  refine rg_take (i := 33) (v := .bool false) rfl (by kernel_rfl) (by kernel_rfl) (by kernel_rfl) (fun _ _ _ h => h) rfl (by assumption) ?_ ?_
                  · intro w hSw; (go_simp; first | done | with_reducible rfl | rfl | omega | assumption | (simp; omega))
                  (try simp only [Act.put, aP, aZ, aS])
                  refine rg_skip (i := 34) rfl (by kernel_rfl) (by kernel_rfl) (by kernel_rfl) (fun _ _ _ h => h) (by kernel_rfl) (by assumption) ?_
                  (try simp only [Act.put, aP, aZ, aS])
                  refine rg_skip (i := 35) rfl (by kernel_rfl) (by kernel_rfl) (by kernel_rfl) (fun _ _ _ h => h) (by kernel_rfl) (by assumption) ?_
                  (try simp only [Act.put, aP, aZ, aS])
                  refine rg_skip (i := 36) rfl (by kernel_rfl) (by kernel_rfl) (by kernel_rfl) (fun _ _ _ h => h) (by kernel_rfl) (by assumption) ?_
                  (try simp only [Act.put, aP, aZ, aS])
                  refine rg_skip (i := 37) rfl (by kernel_rfl) (by kernel_rfl) (by kernel_rfl) (fun _ _ _ h => h) (by kernel_rfl) (by assumption) ?_
                  (try simp only [Act.put, aP, aZ, aS])
                  refine rg_skip (i := 38) rfl (by kernel_rfl) (by kernel_rfl) (by kernel_rfl) (fun _ _ _ h => h) (by kernel_rfl) (by assumption) ?_
                  (try simp only [Act.put, aP, aZ, aS])
                  refine rg_skip (i := 39) rfl (by kernel_rfl) (by kernel_rfl) (by kernel_rfl) (fun _ _ _ h => h) (by kernel_rfl) (by assumption) ?_
                  (try simp only [Act.put, aP, aZ, aS])
                  refine rg_take (i := 40) (v := .bool false) rfl (by kernel_rfl) (by kernel_rfl) (by kernel_rfl) (fun _ _ _ h => h) rfl (by assumption) ?_ ?_
                  · intro w hSw; (go_simp; first | done | with_reducible rfl | rfl | omega | assumption | (simp; omega))
                  (try simp only [Act.put, aP, aZ, aS])
                  refine rg_take (i := 41) (v := .bool false) rfl (by kernel_rfl) (by kernel_rfl) (by kernel_rfl) (fun _ _ _ h => h) rfl (by assumption) ?_ ?_
                  · intro w hSw; (go_simp; first | done | with_reducible rfl | rfl | omega | assumption | (simp; omega))
                  (try simp only [Act.put, aP, aZ, aS])
                  refine rg_skip (i := 42) rfl (by kernel_rfl) (by kernel_rfl) (by kernel_rfl) (fun _ _ _ h => h) (by kernel_rfl) (by assumption) ?_
                  (try simp only [Act.put, aP, aZ, aS])
                  refine rg_skip (i := 43) rfl (by kernel_rfl) (by kernel_rfl) (by kernel_rfl) (fun _ _ _ h => h) (by kernel_rfl) (by assumption) ?_
                  (try simp only [Act.put, aP, aZ, aS])
                  refine rg_skip (i := 44) rfl (by kernel_rfl) (by kernel_rfl) (by kernel_rfl) (fun _ _ _ h => h) (by kernel_rfl) (by assumption) ?_
                  (try simp only [Act.put, aP, aZ, aS])
                  refine rg_skip (i := 45) rfl (by kernel_rfl) (by kernel_rfl) (by kernel_rfl) (fun _ _ _ h => h) (by kernel_rfl) (by assumption) ?_
                  (try simp only [Act.put, aP, aZ, aS])
                  refine rg_skip (i := 46) rfl (by kernel_rfl) (by kernel_rfl) (by kernel_rfl) (fun _ _ _ h => h) (by kernel_rfl) (by assumption) ?_
                  (try simp only [Act.put, aP, aZ, aS])
                  refine rg_skip (i := 47) rfl (by kernel_rfl) (by kernel_rfl) (by kernel_rfl) (fun _ _ _ h => h) (by kernel_rfl) (by assumption) ?_
                  (try simp only [Act.put, aP, aZ, aS])
                  refine rg_skip (i := 48) rfl (by kernel_rfl) (by kernel_rfl) (by kernel_rfl) (fun _ _ _ h => h) (by kernel_rfl) (by assumption) ?_
                  (try simp only [Act.put, aP, aZ, aS])
                  refine rg_skip (i := 49) rfl (by kernel_rfl) (by kernel_rfl) (by kernel_rfl) (fun _ _ _ h => h) (by kernel_rfl) (by assumption) ?_
                  (try simp only [Act.put, aP, aZ, aS])
                  refine rg_skip (i := 50) rfl (by kernel_rfl) (by kernel_rfl) (by kernel_rfl) (fun _ _ _ h => h) (by kernel_rfl) (by assumption) ?_
                  (try simp only [Act.put, aP, aZ, aS])
                  refine rg_take (i := 51) (v := .bool false) rfl (by kernel_rfl) (by kernel_rfl) (by kernel_rfl) (fun _ _ _ h => h) rfl (by assumption) ?_ ?_
                  · intro w hSw; (go_simp; first | done | with_reducible rfl | rfl | omega | assumption | (simp; omega))
                  (try simp only [Act.put, aP, aZ, aS])
                  refine rg_take (i := 52) (v := .bool false) rfl (by kernel_rfl) (by kernel_rfl) (by kernel_rfl) (fun _ _ _ h => h) rfl (by assumption) ?_ ?_
                  · intro w hSw; (go_simp; first | done | with_reducible rfl | rfl | omega | assumption | (simp; omega))
                  (try simp only [Act.put, aP, aZ, aS])
                  refine rg_done (by kernel_rfl) ?_
                  refine (by assumption : ∀ a' w', Met _ a' w' → _) _ _ ?_
                  go_meet
                  case rel => exact ⟨congrArg Value.bool (by rw [← HO.out]; first | exact (decide_eq_true (by omega)).symm | exact (decide_eq_false (by omega)).symm), (by assumption : Sat w0 _ _).pick (by (repeat (first | exact Pick.nil _ | exact Pick.tail _ | exact Out.here _ | apply Out.there | apply Pick.cons | apply Pick.drop)))⟩
              case rest =>
                obtain ⟨rfl, hsD⟩ := hcut
                clear c1 c2 c3 c4 HO
                have HM : Hid (ok1 = true → ∀ v, mput (mput (seMap bs) id v) id (.pointer (some ⟨b80, 0, none⟩)) = seMap (bs ++ [(id, b80, ⟨sq, sn, sti⟩)])) := by
                  unfold Hid
                  intro h v
                  have h5 := (Ht2.out h).1
                  rw [mput_mput, mput_none (fun y hy e => by obtain ⟨z, hz, rfl⟩ := List.mem_map.1 hy; have := h5 z hz; simp only at e; omega)]
                  simp [seMap]
                refine hK17.out _ _ ?_
                clear hK17 K17
                refine rg_start2 (L := Rd1 buf q e4' l4' :: buf :: blk p (.cells #[.int .i64 sp, .int .i64 ap, .int .i64 st, .slice X 0 cx, .map (some bm)] 74 (0, 0)) :: own 33 1 X cx 0 [] :: DV [] :: SatH (seBlks bs) :: blk b80 (.cells #[.int .i64 sq, .int .i64 sn, .int .i64 sti] 81 (0, 0)) :: L) rfl (by assumption) (by (repeat (first | exact Pick.nil _ | with_reducible exact Pick.tail _ | with_reducible exact Out.here _ | apply Out.there | apply Pick.cons | apply Pick.drop))) (fun wr15 hsr15 hsq15 => ?_)
                have hsz15 := hsr15
                refine rg_take (i := 0) (v := ?_) rfl (by kernel_rfl) (by kernel_rfl) (by kernel_rfl) (fun _ _ _ h => h) rfl (by assumption) ?_ ?_
                rotate_left
                · intro w hSw; (go_simp; first | done | with_reducible rfl | rfl | omega | assumption | (simp; omega))
                (try simp only [Act.put, aP, aZ, aS])
                refine rg_take (i := 1) (v := ?_) rfl (by kernel_rfl) (by kernel_rfl) (by kernel_rfl) (fun _ _ _ h => h) rfl (by assumption) ?_ ?_
                rotate_left
                · intro w hSw; (go_simp; first | done | with_reducible rfl | rfl | omega | assumption | (simp; omega))
                (try simp only [Act.put, aP, aZ, aS])
                refine rg_take (i := 2) (v := ?_) rfl (by kernel_rfl) (by kernel_rfl) (by kernel_rfl) (fun _ _ _ h => h) rfl (by assumption) ?_ ?_
                rotate_left
                · intro w hSw; (go_simp; first | done | with_reducible rfl | rfl | omega | assumption | (simp; omega))
                (try simp only [Act.put, aP, aZ, aS])
                refine rg_take (i := 3) (v := ?_) rfl (by kernel_rfl) (by kernel_rfl) (by kernel_rfl) (fun _ _ _ h => h) rfl (by assumption) ?_ ?_
                rotate_left
                · intro w hSw; ((with_reducible apply yl_load); assumption; rfl; (repeat (first | with_reducible assumption | ((with_reducible apply Cl.own); exact rfl) | ((with_reducible apply Cl.blkL); exact rfl) | with_reducible apply Cl.cons)); rfl)
                (try simp only [Act.put, aP, aZ, aS])
                refine rg_take (i := 4) (v := ?_) rfl (by kernel_rfl) (by kernel_rfl) (by kernel_rfl) (fun _ _ _ h => h) rfl (by assumption) ?_ ?_
                rotate_left
                · intro w hSw; (go_simp; first | done | with_reducible rfl | rfl | omega | assumption | (simp; omega))
                (try simp only [Act.put, aP, aZ, aS])
                refine rg_take (i := 5) (v := ?_) rfl (by kernel_rfl) (by kernel_rfl) (by kernel_rfl) (fun _ _ _ h => h) rfl (by assumption) ?_ ?_
                rotate_left
                · intro w hSw; (go_simp; first | done | with_reducible rfl | rfl | omega | assumption | (simp; omega))
                (try simp only [Act.put, aP, aZ, aS])
                refine rg_take (i := 6) (v := ?_) rfl (by kernel_rfl) (by kernel_rfl) (by kernel_rfl) (fun _ _ _ h => h) rfl (by assumption) ?_ ?_
                rotate_left
                · intro w hSw; (go_simp; first | done | with_reducible rfl | rfl | omega | assumption | (simp; omega))
                (try simp only [Act.put, aP, aZ, aS])
                refine rg_take (i := 7) (v := ?_) rfl (by kernel_rfl) (by kernel_rfl) (by kernel_rfl) (fun _ _ _ h => h) rfl (by assumption) ?_ ?_
                rotate_left
                · intro w hSw; (go_simp; first | done | with_reducible rfl | rfl | omega | assumption | (simp; omega))
                (try simp only [Act.put, aP, aZ, aS])
                refine rg_one (i := 8) (by kernel_rfl) rfl rfl (fun Kp hKp => ?_)
                ((with_reducible apply st_mapEntry (xk := id) ktInt); assumption; rfl; rfl; (repeat (first | with_reducible exact Out.here _ | apply Out.there)); exact hin; intro v140 st140 w140 hs140)
                refine rg_back (hK := hKp) ?_ (fun hsk140 => ?_)
                · (first | assumption | (apply Sat.drew; assumption) | (apply Sat.pick; assumption; (repeat (first | exact Pick.nil _ | with_reducible exact Pick.tail _ | with_reducible exact Out.here _ | apply Out.there | apply Pick.cons | apply Pick.drop))))
                clear hKp Kp
                have hsz140 := hs140
                (try simp only [Act.put, aP, aZ, aS])
                refine rg_take (i := 9) (v := ?_) rfl (by kernel_rfl) (by kernel_rfl) (by kernel_rfl) (fun _ _ _ h => h) rfl (by assumption) ?_ ?_
                rotate_left
                · intro w hSw; (go_simp; first | done | with_reducible rfl | rfl | omega | assumption | (simp; omega))
                (try simp only [Act.put, aP, aZ, aS])
                refine rg_one (i := 10) (by kernel_rfl) rfl rfl (fun Kp hKp => ?_)
                ((with_reducible apply st_entryStore (xk := id) hin ktInt.inj); assumption; rfl; rfl; rfl; (repeat (first | with_reducible exact Out.here _ | apply Out.there)); intro wr15_10 hsr15_10)
                refine rg_back (hK := hKp) ?_ (fun hskr15_10 => ?_)
                · (first | assumption | (apply Sat.drew; assumption) | (apply Sat.pick; assumption; (repeat (first | exact Pick.nil _ | with_reducible exact Pick.tail _ | with_reducible exact Out.here _ | apply Out.there | apply Pick.cons | apply Pick.drop))))
                clear hKp Kp
                have hszr15_10 := hsr15_10
                (try dsimp only [Act.put])
                refine rg_done (by kernel_rfl) ?_
                refine hK14.out _ _ ?_
                (try clear hK14 K14)
                refine wk_reg ?_
                iterate 3 (refine pl_take (v := ?_) rfl ?_ ?_; rotate_left; (· (go_simp; first | done | with_reducible rfl | rfl | omega | assumption | (simp; omega))); (try simp only [Act.put, aP, aZ, aS]))
                refine pl_done ?_
                (try dsimp only [Exit.inBlock, Exit.then])
                refine (by assumption : ∀ a' w', Handed _ _ a' w' → _) _ _ ?_
                go_roundg (gk - 1)
                case measure => omega
                case rel => exact ⟨i + 1, id, ok1, e4', l4', _, seBlks bs ++ [seBlk (id, b80, ⟨sq, sn, sti⟩)], bs ++ [(id, b80, ⟨sq, sn, sti⟩)], rfl, rfl, by go_num, by omega, by omega, hl', hid0, hid1, Hid.mk' (fun h => ⟨hnx3, HM.out h _, by simp [seBlks], fun x hx => by rcases List.mem_append.1 hx with hx | hx; exact Int.le_of_lt ((Ht2.out h).1 x hx); (simp only [List.mem_singleton] at hx; subst hx; exact Int.le_refl _), (Ht2.out h).2 b80⟩), Hf2, (Sat.bag_snoc (M := seBlks bs) (p := seBlk (id, b80, ⟨sq, sn, sti⟩)) ((by assumption : Sat w0 _ _).pick (T := seBlk (id, b80, ⟨sq, sn, sti⟩) :: SatH (seBlks bs) :: Rd1 buf q e4' l4' :: buf :: blk p (.cells #[.int .i64 sp, .int .i64 ap, .int .i64 st, .slice X 0 cx, .map (some bm)] 74 (0, 0)) :: own 33 1 X cx 0 [] :: DV [] :: mp (Value.int .i64) In64 bm _ :: L) (by (repeat (first | exact Pick.nil _ | exact Pick.tail _ | exact Out.here _ | apply Out.there | apply Pick.cons | apply Pick.drop))))).pick (by (repeat (first | exact Pick.nil _ | exact Pick.tail _ | exact Out.here _ | apply Out.there | apply Pick.cons | apply Pick.drop)))⟩
            | false =>
              refine wk_seq (fun K12 hK12 => ?_)
              refine wk_seq (fun K13 hK13 => ?_)
              refine wk_reg ?_
              iterate 2 (refine pl_take (v := ?_) rfl ?_ ?_; rotate_left; (· (go_simp; first | done | with_reducible rfl | rfl | omega | assumption | (simp; omega))); (try simp only [Act.put, aP, aZ, aS]))
              iterate 2 (refine pl_take (v := .bool true) rfl ?_ ?_; (· (go_simp; first | done | with_reducible rfl | rfl | omega | assumption | (simp; omega))); (try simp only [Act.put, aP, aZ, aS]))
              refine pl_take (v := .bool false) (by kernel_rfl) ?_ ?_
              · (go_simp; first | done | with_reducible rfl | rfl | omega | assumption | (simp; omega))
              (try simp only [Act.put, aP, aZ, aS])
              refine pl_take (v := .bool false) rfl ?_ ?_
              · (go_simp; first | done | with_reducible rfl | rfl | omega | assumption | (simp; omega))
              (try simp only [Act.put, aP, aZ, aS])
              refine pl_done ?_
              refine hK13.out _ _ ?_
              (try clear hK13 K13)
              refine wp_cond_false rfl ?_
              refine wp_exit ?_
              refine (by assumption : ∀ a' w', Met _ a' w' → _) _ _ ?_
              go_meet
              case rel => exact ⟨false, e, l, lm, Bag, bs, rfl, hll, Hid.mk' (fun h => by cases h), Hf, hsC⟩
          · obtain rfl : i = N := by omega
            have Ht2 : Hid (ok = true → nx < 1099511627776 ∧ lm = seMap bs ∧ Bag = seBlks bs ∧ Z = rsFin sp ap st (seStrip bs) (rsRec (nx - st).toNat [] e l)) := by
              unfold Hid
              intro h
              obtain ⟨h0, h1, h2, _, h3⟩ := Ht.out h
              exact ⟨h0, h1, h2, by rw [h3, Nat.sub_self]; rfl⟩
            refine wk_seq (fun K12 hK12 => ?_)
            refine wk_seq (fun K13 hK13 => ?_)
            refine wk_reg ?_
            iterate 2 (refine pl_take (v := ?_) rfl ?_ ?_; rotate_left; (· (go_simp; first | done | with_reducible rfl | rfl | omega | assumption | (simp; omega))); (try simp only [Act.put, aP, aZ, aS]))
            iterate 2 (refine pl_take (v := .bool false) rfl ?_ ?_; (· (go_simp; first | done | with_reducible rfl | rfl | omega | assumption | (simp; omega))); (try simp only [Act.put, aP, aZ, aS]))
            refine pl_skip (by kernel_rfl) ?_
            (try simp only [Act.put, aP, aZ, aS])
            refine pl_take (v := .bool false) rfl ?_ ?_
            · (go_simp; first | done | with_reducible rfl | rfl | omega | assumption | (simp; omega))
            (try simp only [Act.put, aP, aZ, aS])
            refine pl_done ?_
            refine hK13.out _ _ ?_
            (try clear hK13 K13)
            refine wp_cond_false rfl ?_
            refine wp_exit ?_
            refine (by assumption : ∀ a' w', Met _ a' w' → _) _ _ ?_
            go_meet
            case rel => exact ⟨ok, e, l, lm, Bag, bs, rfl, hll, Ht2, Hf, hsC⟩
      case rest =>
        obtain ⟨ok, e, l, lm, Bag, bs, rfl, hll, Ht, Hf, hsB⟩ := hcut
        clear hsA HZt HZf hl4
        obtain ⟨K, hK⟩ : ∃ K : Nat, (nx - st).toNat = K := ⟨_, rfl⟩
        rw [hK] at Ht
        refine hK10.out _ _ ?_
        clear hK10 K10
        refine wk_seq (fun K18 hK18 => ?_)
        -- at a cut
        go_cut [11] from 12 to 173 (fun s11 w => ∃ (ok : Bool) (e : Int) (l : List UInt8) (X : Option Addr) (cx n : Nat) (ys : List RecRow), s11 = .bool ok ∧ Hid (n = ys.length) ∧ Hid (ok = true → lm = seMap bs ∧ Bag = seBlks bs ∧ Z = rsFin sp ap st (seStrip bs) (some (ys.map (·.1), e, l))) ∧ Hid (ok = false → Z = (none, 21)) ∧ Sat w0 w (Rd1 buf q e l :: buf :: blk p (.cells #[.int .i64 sp, .int .i64 ap, .int .i64 st, .slice X n cx, .map (some bm)] 74 (0, 0)) :: own 33 1 X cx n (recCells ys) :: DV (recData ys) :: mp (Value.int .i64) In64 bm lm :: SatH Bag :: L))
        case first =>
          refine wk_seq (fun K19 hK19 => ?_)
          refine wk_reg ?_
          iterate 5 (refine pl_take (v := ?_) rfl ?_ ?_; rotate_left; (· (first | ((with_reducible apply yl_load); assumption; rfl; (repeat (first | with_reducible assumption | ((with_reducible apply Cl.own); exact rfl) | ((with_reducible apply Cl.blkL); exact rfl) | with_reducible apply Cl.cons)); rfl) | (go_simp; first | done | with_reducible rfl | rfl | omega | assumption | (simp; omega)))); (try simp only [Act.put, aP, aZ, aS]))
          refine pl_done ?_
          refine hK19.out _ _ ?_
          (try clear hK19 K19)
          refine wp_block ?_
          -- at a loop
          go_loopg [11, 16] K (fun g s11 s16 wr => ∃ (j : Nat) (ok : Bool) (e : Int) (l : List UInt8) (X : Option Addr) (cx n : Nat) (ys : List RecRow), s11 = .bool ok ∧ s16 = .int .i64 (st + j) ∧ j ≤ K ∧ K - j ≤ g ∧ l.length ≤ 4294967296 ∧ n = j ∧ Hid (n = ys.length) ∧ Hid (ok = true → nx < 1099511627776 ∧ lm = seMap bs ∧ Bag = seBlks bs ∧ Z = rsFin sp ap st (seStrip bs) (rsRec (K - j) (ys.map (·.1)) e l)) ∧ Hid (ok = false → Z = (none, 21)) ∧ Sat w0 wr (Rd1 buf q e l :: buf :: blk p (.cells #[.int .i64 sp, .int .i64 ap, .int .i64 st, .slice X n cx, .map (some bm)] 74 (0, 0)) :: own 33 1 X cx n (recCells ys) :: DV (recData ys) :: mp (Value.int .i64) In64 bm lm :: SatH Bag :: L))
          case atStart => exact ⟨0, ok, e, l, X, cx, 0, [], rfl, by go_num, Nat.zero_le _, Nat.le_refl _, hll, rfl, rfl, Hid.mk' (fun h => Ht.out h), Hf, hsB.pick (by (repeat (first | exact Pick.nil _ | exact Pick.tail _ | exact Out.here _ | apply Out.there | apply Pick.cons | apply Pick.drop)))⟩
          case round =>
            clear hsB hll Ht Hf
            obtain ⟨j, ok, e, l, X, cx, n, ys, rfl, rfl, hj, hg, hll, rfl, Hn, Ht, Hf, hsC⟩ := hrel
            by_cases hlt : st + (n : Int) < nx
            · cases ok with
              | true =>
                obtain ⟨hnx3, rfl, rfl, hZ⟩ := Ht.out rfl
                clear Ht Hf
                have hnK : n < K := by omega
                obtain ⟨⟨d, e', l'⟩, x1⟩ : ∃ z, rdBytes e l = z := ⟨_, rfl⟩
                obtain ⟨hr1, hr2⟩ := rdBytes_len x1
                have c1 := fun (w : World) (L' : List HP) (buf : HP) (p : Nat) (hs : Sat w0 w (Rd1 buf p e l :: buf :: L')) => bytes_read e l (by omega) hs
                rw [x1] at c1
                have c2 := fun (w : World) (L' : List HP) (buf : HP) (p : Nat) (hs : Sat w0 w (Rd1 buf p e' l' :: L')) => err_spec hs
                have hwk : IntKind.i64.wrap (st + (n : Int) + 1) = st + (n : Int) + 1 := IntWalk.i64_in _ (by omega)
                by_cases hgood : e' = 0 ∧ (d.length : Int) ≤ 1024
                · have hZ2 : Z = rsFin sp ap st (seStrip bs) (rsRec (K - (n + 1)) (ys.map (·.1) ++ [d]) e' l') := by
                    rw [hZ, show K - n = (K - (n + 1)) + 1 from by omega]
                    simp only [rsRec, x1]
                    rw [if_pos ⟨hgood.1, by omega⟩]
                  have HZ2 := Hid.mk' hZ2
                  obtain ⟨rfl, hg2⟩ := hgood
                  clear hZ hZ2 x1
                  refine wk_seq (fun K20 hK20 => ?_)
                  refine wk_seq (fun K21 hK21 => ?_)
                  refine wk_reg ?_
                  iterate 2 (refine pl_take (v := ?_) rfl ?_ ?_; rotate_left; (· (go_simp; first | done | with_reducible rfl | rfl | omega | assumption | (simp; omega))); (try simp only [Act.put, aP, aZ, aS]))
                  iterate 2 (refine pl_take (v := .bool true) rfl ?_ ?_; (· (go_simp; first | done | with_reducible rfl | rfl | omega | assumption | (simp; omega))); (try simp only [Act.put, aP, aZ, aS]))
                  refine pl_take (v := .bool true) (by kernel_rfl) ?_ ?_
                  · (go_simp; first | done | with_reducible rfl | rfl | omega | assumption | (simp; omega))
                  (try simp only [Act.put, aP, aZ, aS])
                  refine pl_take (v := .bool true) rfl ?_ ?_
                  · (go_simp; first | done | with_reducible rfl | rfl | omega | assumption | (simp; omega))
                  (try simp only [Act.put, aP, aZ, aS])
                  refine pl_done ?_
                  refine hK21.out _ _ ?_
                  (try clear hK21 K21)
                  refine wp_cond_true rfl ?_
                  refine wp_skip ?_
                  refine hK20.out _ _ ?_
                  (try clear hK20 K20)
                  refine wk_seq (fun K22 hK22 => ?_)
                  refine wp_block ?_
                  refine wk_seq (fun K23 hK23 => ?_)
                  refine wk_reg ?_
                  refine pl_take (v := ?_) rfl ?_ ?_
                  rotate_left
                  · (go_simp; first | done | with_reducible rfl | rfl | omega | assumption | (simp; omega))
                  (try simp only [Act.put, aP, aZ, aS])
                  refine pl_eff rfl (fun Kp hKp => ?_)
                  go_simp
                  (refine (c1 _ _ _ _ ((by assumption : Sat w0 _ _).pick (.cons (by (repeat (first | with_reducible exact Out.here _ | apply Out.there))) (.cons (by (repeat (first | with_reducible exact Out.here _ | apply Out.there))) (.tail _))))).mono ?_; rintro e155 w155 ⟨D, dc, rfl, hs155⟩; simp only at hs155 ⊢)
                  (try go_wp2_with fail)
                  refine hKp.out _ _ ?_
                  clear hKp Kp
                  (try simp only [Act.put, aP, aZ, aS])
                  refine pl_take (v := ?_) rfl ?_ ?_
                  rotate_left
                  · (go_simp; first | done | with_reducible rfl | rfl | omega | assumption | (simp; omega))
                  (try simp only [Act.put, aP, aZ, aS])
                  refine pl_done ?_
                  refine hK23.out _ _ ?_
                  (try clear hK23 K23)
                  refine wk_seq (fun K24 hK24 => ?_)
                  refine wk_reg ?_
                  refine pl_take (v := ?_) rfl ?_ ?_
                  rotate_left
                  · (go_simp; first | done | with_reducible rfl | rfl | omega | assumption | (simp; omega))
                  (try simp only [Act.put, aP, aZ, aS])
                  refine pl_eff rfl (fun Kp hKp => ?_)
                  go_simp
                  (refine (c2 _ _ _ _ ((by assumption : Sat w0 _ _).pick (.cons (by (repeat (first | with_reducible exact Out.here _ | apply Out.there))) (.tail _)))).mono ?_; rintro e157 w157 ⟨rfl, rfl⟩)
                  (try go_wp2_with fail)
                  refine hKp.out _ _ ?_
                  clear hKp Kp
                  (try simp only [Act.put, aP, aZ, aS])
                  iterate 2 (refine pl_take (v := .bool true) rfl ?_ ?_; (· (go_simp; first | done | with_reducible rfl | rfl | omega | assumption | (simp; omega))); (try simp only [Act.put, aP, aZ, aS]))
                  iterate 2 (refine pl_take (v := ?_) (by kernel_rfl) ?_ ?_; rotate_left; (· (go_simp; first | done | with_reducible rfl | rfl | omega | assumption | (simp; omega))); (try simp only [Act.put, aP, aZ, aS]))
                  refine pl_take (v := .bool true) (by kernel_rfl) ?_ ?_
                  · (go_simp; first | done | with_reducible rfl | rfl | omega | assumption | (simp; omega))
                  (try simp only [Act.put, aP, aZ, aS])
                  iterate 2 (refine pl_take (v := .bool true) rfl ?_ ?_; (· (go_simp; first | done | with_reducible rfl | rfl | omega | assumption | (simp; omega))); (try simp only [Act.put, aP, aZ, aS]))
                  refine pl_done ?_
                  refine hK24.out _ _ ?_
                  (try clear hK24 K24)
                  refine wk_reg ?_
                  iterate 6 (refine pl_take (v := ?_) rfl ?_ ?_; rotate_left; (· (first | ((with_reducible apply yl_load); assumption; rfl; (repeat (first | with_reducible assumption | ((with_reducible apply Cl.own); exact rfl) | ((with_reducible apply Cl.blkL); exact rfl) | with_reducible apply Cl.cons)); rfl) | (go_simp; first | done | with_reducible rfl | rfl | omega | assumption | (simp; omega)))); (try simp only [Act.put, aP, aZ, aS]))
                  refine pl_eff rfl (fun Kp hKp => ?_)
                  ((with_reducible apply st_buildSlice); assumption; rfl; (go_simp; rfl); (simp [Value.cells]); omega; intro b170 w170 hs170)
                  refine hKp.out _ _ ?_
                  clear hKp Kp
                  (try simp only [Act.put, aP, aZ, aS])
                  refine pl_eff rfl (fun Kp hKp => ?_)
                  ((with_reducible apply st_append); go_must (assumption; rfl; rfl; (repeat (first | with_reducible exact Out.here _ | apply Out.there)); (repeat (first | with_reducible assumption | with_reducible exact Rd.own | with_reducible exact Rd.nil | with_reducible apply Rd.cons)); (first | exact B8_one _ | exact I8_one _ | (simp [Value.oneCell'])); (first | omega | (simp only [maxLen]; omega)); omega; intro A171 c171 w171 hs171 hc171; (try ((refine hs171.own_elim ?_ ?_); omega; rintro g171 rfl)); try simp only [Nat.zero_add, List.nil_append] at hs171 hc171))
                  refine hKp.out _ _ ?_
                  clear hKp Kp
                  (try simp only [Act.put, aP, aZ, aS])
                  iterate 2 (refine pl_take (v := ?_) rfl ?_ ?_; rotate_left; (· (go_simp; first | done | with_reducible rfl | rfl | omega | assumption | (simp; omega))); (try simp only [Act.put, aP, aZ, aS]))
                  refine pl_eff rfl (fun Kp hKp => ?_)
                  (first | ((with_reducible apply st_store1); assumption; rfl; (go_simp; rfl); (repeat (first | with_reducible exact Out.here _ | apply Out.there)); rfl; rfl; simp; intro wr21_10 hsr21_10; (try simp only [aP] at hsr21_10); (try simp only [aS] at hsr21_10); (try simp only [aZ] at hsr21_10)) | ((with_reducible apply st_store_own); assumption; rfl; (go_simp; rfl); (repeat (first | with_reducible exact Out.here _ | apply Out.there)); rfl; rfl; omega; intro wr21_10 hsr21_10))
                  refine hKp.out _ _ ?_
                  clear hKp Kp
                  (try dsimp only [Act.put])
                  refine pl_done ?_
                  refine hK22.out _ _ ?_
                  (try clear hK22 K22)
                  refine wk_reg ?_
                  iterate 3 (refine pl_take (v := ?_) rfl ?_ ?_; rotate_left; (· (go_simp; first | done | with_reducible rfl | rfl | omega | assumption | (simp; omega))); (try simp only [Act.put, aP, aZ, aS]))
                  refine pl_done ?_
                  (try dsimp only [Exit.inBlock, Exit.then])
                  refine (by assumption : ∀ a' w', Handed _ _ a' w' → _) _ _ ?_
                  go_roundg (gk - 1)
                  case measure => omega
                  case rel => (have hfin := (by assumption : Sat w0 _ _); refine ⟨n + 1, true, 0, l', some ⟨g171, 0, none⟩, c171, n + 1, ys ++ [(d, D, dc)], rfl, congrArg (Value.int .i64) (by omega), by omega, by omega, by omega, rfl, Hid.mk' (by have := Hn.out; simp; omega), Hid.mk' (fun _ => ⟨hnx3, by simp, by simp, by rw [List.map_append]; exact HZ2.out⟩), Hid.mk' (fun h => by cases h), ?_⟩; rw [recCells_snoc, recData_snoc]; refine Sat.pick (L := DV (recData ys ++ [(D, d)]) :: Rd1 buf q 0 l' :: buf :: blk p _ :: own _ 1 _ _ (n + 1) _ :: mp (Value.int .i64) In64 bm (seMap bs) :: SatH (seBlks bs) :: L) ?_ (by (repeat (first | exact Pick.nil _ | exact Pick.tail _ | exact Out.here _ | apply Out.there | apply Pick.cons | apply Pick.drop))); refine Sat.dv_snoc (E := 5) (c := dc) ?_; exact hfin.pick (by (repeat (first | exact Pick.nil _ | exact Pick.tail _ | exact Out.here _ | apply Out.there | apply Pick.cons | apply Pick.drop))))
                · have hZ2 : Z = (none, 21) := by
                    rw [hZ, show K - n = (K - (n + 1)) + 1 from by omega]
                    simp only [rsRec, x1]
                    rw [if_neg (fun h => hgood ⟨h.1, by omega⟩)]; rfl
                  have HZ2 := Hid.mk' hZ2
                  clear hZ hZ2 x1
                  refine wk_seq (fun K20 hK20 => ?_)
                  refine wk_seq (fun K21 hK21 => ?_)
                  refine wk_reg ?_
                  iterate 2 (refine pl_take (v := ?_) rfl ?_ ?_; rotate_left; (· (go_simp; first | done | with_reducible rfl | rfl | omega | assumption | (simp; omega))); (try simp only [Act.put, aP, aZ, aS]))
                  iterate 2 (refine pl_take (v := .bool true) rfl ?_ ?_; (· (go_simp; first | done | with_reducible rfl | rfl | omega | assumption | (simp; omega))); (try simp only [Act.put, aP, aZ, aS]))
                  refine pl_take (v := .bool true) (by kernel_rfl) ?_ ?_
                  · (go_simp; first | done | with_reducible rfl | rfl | omega | assumption | (simp; omega))
                  (try simp only [Act.put, aP, aZ, aS])
                  refine pl_take (v := .bool true) rfl ?_ ?_
                  · (go_simp; first | done | with_reducible rfl | rfl | omega | assumption | (simp; omega))
                  (try simp only [Act.put, aP, aZ, aS])
                  refine pl_done ?_
                  refine hK21.out _ _ ?_
                  (try clear hK21 K21)
                  refine wp_cond_true rfl ?_
                  refine wp_skip ?_
                  refine hK20.out _ _ ?_
                  (try clear hK20 K20)
                  refine wk_seq (fun K22 hK22 => ?_)
                  refine wp_block ?_
                  refine wk_seq (fun K23 hK23 => ?_)
                  refine wk_reg ?_
                  refine pl_take (v := ?_) rfl ?_ ?_
                  rotate_left
                  · (go_simp; first | done | with_reducible rfl | rfl | omega | assumption | (simp; omega))
                  (try simp only [Act.put, aP, aZ, aS])
                  refine pl_eff rfl (fun Kp hKp => ?_)
                  go_simp
                  (refine (c1 _ _ _ _ ((by assumption : Sat w0 _ _).pick (.cons (by (repeat (first | with_reducible exact Out.here _ | apply Out.there))) (.cons (by (repeat (first | with_reducible exact Out.here _ | apply Out.there))) (.tail _))))).mono ?_; rintro e155 w155 ⟨D, dc, rfl, hs155⟩; simp only at hs155 ⊢)
                  (try go_wp2_with fail)
                  refine hKp.out _ _ ?_
                  clear hKp Kp
                  (try simp only [Act.put, aP, aZ, aS])
                  refine pl_take (v := ?_) rfl ?_ ?_
                  rotate_left
                  · (go_simp; first | done | with_reducible rfl | rfl | omega | assumption | (simp; omega))
                  (try simp only [Act.put, aP, aZ, aS])
                  refine pl_done ?_
                  refine hK23.out _ _ ?_
                  (try clear hK23 K23)
                  refine wk_seq (fun K24 hK24 => ?_)
                  refine wk_reg ?_
                  refine pl_take (v := ?_) rfl ?_ ?_
                  rotate_left
                  · (go_simp; first | done | with_reducible rfl | rfl | omega | assumption | (simp; omega))
                  (try simp only [Act.put, aP, aZ, aS])
                  refine pl_eff rfl (fun Kp hKp => ?_)
                  go_simp
                  (refine (c2 _ _ _ _ ((by assumption : Sat w0 _ _).pick (.cons (by (repeat (first | with_reducible exact Out.here _ | apply Out.there))) (.tail _)))).mono ?_; rintro e157 w157 ⟨rfl, rfl⟩)
                  (try go_wp2_with fail)
                  refine hKp.out _ _ ?_
                  clear hKp Kp
                  (try simp only [Act.put, aP, aZ, aS])
                  by_cases k1 : e' = 0
                  · refine pl_take (v := .bool true) rfl ?_ ?_
                    · (go_simp; first | done | with_reducible rfl | rfl | omega | assumption | (simp; omega))
                    (try simp only [Act.put, aP, aZ, aS])
                    refine pl_take (v := .bool true) rfl ?_ ?_
                    · (go_simp; first | done | with_reducible rfl | rfl | omega | assumption | (simp; omega))
                    (try simp only [Act.put, aP, aZ, aS])
                    iterate 2 (refine pl_take (v := ?_) (by kernel_rfl) ?_ ?_; rotate_left; (· (go_simp; first | done | with_reducible rfl | rfl | omega | assumption | (simp; omega))); (try simp only [Act.put, aP, aZ, aS]))
                    refine pl_take (v := .bool false) (by kernel_rfl) ?_ ?_
                    · (go_simp; first | done | with_reducible rfl | rfl | omega | assumption | (simp; omega))
                    (try simp only [Act.put, aP, aZ, aS])
                    iterate 2 (refine pl_take (v := .bool false) rfl ?_ ?_; (· (go_simp; first | done | with_reducible rfl | rfl | omega | assumption | (simp; omega))); (try simp only [Act.put, aP, aZ, aS]))
                    refine pl_done ?_
                    refine hK24.out _ _ ?_
                    (try clear hK24 K24)
                    refine wk_reg ?_
                    iterate 6 (refine pl_take (v := ?_) rfl ?_ ?_; rotate_left; (· (first | ((with_reducible apply yl_load); assumption; rfl; (repeat (first | with_reducible assumption | ((with_reducible apply Cl.own); exact rfl) | ((with_reducible apply Cl.blkL); exact rfl) | with_reducible apply Cl.cons)); rfl) | (go_simp; first | done | with_reducible rfl | rfl | omega | assumption | (simp; omega)))); (try simp only [Act.put, aP, aZ, aS]))
                    refine pl_eff rfl (fun Kp hKp => ?_)
                    ((with_reducible apply st_buildSlice); assumption; rfl; (go_simp; rfl); (simp [Value.cells]); omega; intro b170 w170 hs170)
                    refine hKp.out _ _ ?_
                    clear hKp Kp
                    (try simp only [Act.put, aP, aZ, aS])
                    refine pl_eff rfl (fun Kp hKp => ?_)
                    ((with_reducible apply st_append); go_must (assumption; rfl; rfl; (repeat (first | with_reducible exact Out.here _ | apply Out.there)); (repeat (first | with_reducible assumption | with_reducible exact Rd.own | with_reducible exact Rd.nil | with_reducible apply Rd.cons)); (first | exact B8_one _ | exact I8_one _ | (simp [Value.oneCell'])); (first | omega | (simp only [maxLen]; omega)); omega; intro A171 c171 w171 hs171 hc171; (try ((refine hs171.own_elim ?_ ?_); omega; rintro g171 rfl)); try simp only [Nat.zero_add, List.nil_append] at hs171 hc171))
                    refine hKp.out _ _ ?_
                    clear hKp Kp
                    (try simp only [Act.put, aP, aZ, aS])
                    iterate 2 (refine pl_take (v := ?_) rfl ?_ ?_; rotate_left; (· (go_simp; first | done | with_reducible rfl | rfl | omega | assumption | (simp; omega))); (try simp only [Act.put, aP, aZ, aS]))
                    refine pl_eff rfl (fun Kp hKp => ?_)
                    (first | ((with_reducible apply st_store1); assumption; rfl; (go_simp; rfl); (repeat (first | with_reducible exact Out.here _ | apply Out.there)); rfl; rfl; simp; intro wr21_10 hsr21_10; (try simp only [aP] at hsr21_10); (try simp only [aS] at hsr21_10); (try simp only [aZ] at hsr21_10)) | ((with_reducible apply st_store_own); assumption; rfl; (go_simp; rfl); (repeat (first | with_reducible exact Out.here _ | apply Out.there)); rfl; rfl; omega; intro wr21_10 hsr21_10))
                    refine hKp.out _ _ ?_
                    clear hKp Kp
                    (try dsimp only [Act.put])
                    refine pl_done ?_
                    refine hK22.out _ _ ?_
                    (try clear hK22 K22)
                    refine wk_reg ?_
                    iterate 3 (refine pl_take (v := ?_) rfl ?_ ?_; rotate_left; (· (go_simp; first | done | with_reducible rfl | rfl | omega | assumption | (simp; omega))); (try simp only [Act.put, aP, aZ, aS]))
                    refine pl_done ?_
                    (try dsimp only [Exit.inBlock, Exit.then])
                    refine (by assumption : ∀ a' w', Handed _ _ a' w' → _) _ _ ?_
                    go_roundg (gk - 1)
                    case measure => omega
                    case rel => (have hfin := (by assumption : Sat w0 _ _); refine ⟨n + 1, false, e', l', some ⟨g171, 0, none⟩, c171, n + 1, ys ++ [(d, D, dc)], rfl, congrArg (Value.int .i64) (by omega), by omega, by omega, by omega, rfl, Hid.mk' (by have := Hn.out; simp; omega), Hid.mk' (fun h => by cases h), Hid.mk' (fun _ => HZ2.out), ?_⟩; rw [recCells_snoc, recData_snoc]; refine Sat.pick (L := DV (recData ys ++ [(D, d)]) :: Rd1 buf q e' l' :: buf :: blk p _ :: own _ 1 _ _ (n + 1) _ :: mp (Value.int .i64) In64 bm (seMap bs) :: SatH (seBlks bs) :: L) ?_ (by (repeat (first | exact Pick.nil _ | exact Pick.tail _ | exact Out.here _ | apply Out.there | apply Pick.cons | apply Pick.drop))); refine Sat.dv_snoc (E := 5) (c := dc) ?_; exact hfin.pick (by (repeat (first | exact Pick.nil _ | exact Pick.tail _ | exact Out.here _ | apply Out.there | apply Pick.cons | apply Pick.drop))))
                  · refine pl_take (v := .bool false) rfl ?_ ?_
                    · (go_simp; first | done | with_reducible rfl | rfl | omega | assumption | (simp; omega))
                    (try simp only [Act.put, aP, aZ, aS])
                    refine pl_take (v := .bool false) rfl ?_ ?_
                    · (go_simp; first | done | with_reducible rfl | rfl | omega | assumption | (simp; omega))
                    (try simp only [Act.put, aP, aZ, aS])
                    iterate 3 (refine pl_skip (by kernel_rfl) ?_; (try simp only [Act.put, aP, aZ, aS]))
                    iterate 2 (refine pl_take (v := .bool false) rfl ?_ ?_; (· (go_simp; first | done | with_reducible rfl | rfl | omega | assumption | (simp; omega))); (try simp only [Act.put, aP, aZ, aS]))
                    refine pl_done ?_
                    refine hK24.out _ _ ?_
                    (try clear hK24 K24)
                    refine wk_reg ?_
                    iterate 6 (refine pl_take (v := ?_) rfl ?_ ?_; rotate_left; (· (first | ((with_reducible apply yl_load); assumption; rfl; (repeat (first | with_reducible assumption | ((with_reducible apply Cl.own); exact rfl) | ((with_reducible apply Cl.blkL); exact rfl) | with_reducible apply Cl.cons)); rfl) | (go_simp; first | done | with_reducible rfl | rfl | omega | assumption | (simp; omega)))); (try simp only [Act.put, aP, aZ, aS]))
                    refine pl_eff rfl (fun Kp hKp => ?_)
                    ((with_reducible apply st_buildSlice); assumption; rfl; (go_simp; rfl); (simp [Value.cells]); omega; intro b170 w170 hs170)
                    refine hKp.out _ _ ?_
                    clear hKp Kp
                    (try simp only [Act.put, aP, aZ, aS])
                    refine pl_eff rfl (fun Kp hKp => ?_)
                    ((with_reducible apply st_append); go_must (assumption; rfl; rfl; (repeat (first | with_reducible exact Out.here _ | apply Out.there)); (repeat (first | with_reducible assumption | with_reducible exact Rd.own | with_reducible exact Rd.nil | with_reducible apply Rd.cons)); (first | exact B8_one _ | exact I8_one _ | (simp [Value.oneCell'])); (first | omega | (simp only [maxLen]; omega)); omega; intro A171 c171 w171 hs171 hc171; (try ((refine hs171.own_elim ?_ ?_); omega; rintro g171 rfl)); try simp only [Nat.zero_add, List.nil_append] at hs171 hc171))
                    refine hKp.out _ _ ?_
                    clear hKp Kp
                    (try simp only [Act.put, aP, aZ, aS])
                    iterate 2 (refine pl_take (v := ?_) rfl ?_ ?_; rotate_left; (· (go_simp; first | done | with_reducible rfl | rfl | omega | assumption | (simp; omega))); (try simp only [Act.put, aP, aZ, aS]))
                    refine pl_eff rfl (fun Kp hKp => ?_)
                    (first | ((with_reducible apply st_store1); assumption; rfl; (go_simp; rfl); (repeat (first | with_reducible exact Out.here _ | apply Out.there)); rfl; rfl; simp; intro wr21_10 hsr21_10; (try simp only [aP] at hsr21_10); (try simp only [aS] at hsr21_10); (try simp only [aZ] at hsr21_10)) | ((with_reducible apply st_store_own); assumption; rfl; (go_simp; rfl); (repeat (first | with_reducible exact Out.here _ | apply Out.there)); rfl; rfl; omega; intro wr21_10 hsr21_10))
                    refine hKp.out _ _ ?_
                    clear hKp Kp
                    (try dsimp only [Act.put])
                    refine pl_done ?_
                    refine hK22.out _ _ ?_
                    (try clear hK22 K22)
                    refine wk_reg ?_
                    iterate 3 (refine pl_take (v := ?_) rfl ?_ ?_; rotate_left; (· (go_simp; first | done | with_reducible rfl | rfl | omega | assumption | (simp; omega))); (try simp only [Act.put, aP, aZ, aS]))
                    refine pl_done ?_
                    (try dsimp only [Exit.inBlock, Exit.then])
                    refine (by assumption : ∀ a' w', Handed _ _ a' w' → _) _ _ ?_
                    go_roundg (gk - 1)
                    case measure => omega
                    case rel => (have hfin := (by assumption : Sat w0 _ _); refine ⟨n + 1, false, e', l', some ⟨g171, 0, none⟩, c171, n + 1, ys ++ [(d, D, dc)], rfl, congrArg (Value.int .i64) (by omega), by omega, by omega, by omega, rfl, Hid.mk' (by have := Hn.out; simp; omega), Hid.mk' (fun h => by cases h), Hid.mk' (fun _ => HZ2.out), ?_⟩; rw [recCells_snoc, recData_snoc]; refine Sat.pick (L := DV (recData ys ++ [(D, d)]) :: Rd1 buf q e' l' :: buf :: blk p _ :: own _ 1 _ _ (n + 1) _ :: mp (Value.int .i64) In64 bm (seMap bs) :: SatH (seBlks bs) :: L) ?_ (by (repeat (first | exact Pick.nil _ | exact Pick.tail _ | exact Out.here _ | apply Out.there | apply Pick.cons | apply Pick.drop))); refine Sat.dv_snoc (E := 5) (c := dc) ?_; exact hfin.pick (by (repeat (first | exact Pick.nil _ | exact Pick.tail _ | exact Out.here _ | apply Out.there | apply Pick.cons | apply Pick.drop))))
              | false =>
                refine wk_seq (fun K20 hK20 => ?_)
                refine wk_seq (fun K21 hK21 => ?_)
                refine wk_reg ?_
                iterate 2 (refine pl_take (v := ?_) rfl ?_ ?_; rotate_left; (· (go_simp; first | done | with_reducible rfl | rfl | omega | assumption | (simp; omega))); (try simp only [Act.put, aP, aZ, aS]))
                iterate 2 (refine pl_take (v := .bool true) rfl ?_ ?_; (· (go_simp; first | done | with_reducible rfl | rfl | omega | assumption | (simp; omega))); (try simp only [Act.put, aP, aZ, aS]))
                refine pl_take (v := .bool false) (by kernel_rfl) ?_ ?_
                · (go_simp; first | done | with_reducible rfl | rfl | omega | assumption | (simp; omega))
                (try simp only [Act.put, aP, aZ, aS])
                refine pl_take (v := .bool false) rfl ?_ ?_
                · (go_simp; first | done | with_reducible rfl | rfl | omega | assumption | (simp; omega))
                (try simp only [Act.put, aP, aZ, aS])
                refine pl_done ?_
                refine hK21.out _ _ ?_
                (try clear hK21 K21)
                refine wp_cond_false rfl ?_
                refine wp_exit ?_
                refine (by assumption : ∀ a' w', Met _ a' w' → _) _ _ ?_
                go_meet
                case rel => exact ⟨false, e, l, X, cx, n, ys, rfl, Hn, Hid.mk' (fun h => by cases h), Hf, hsC⟩
            · have Ht2 : Hid (ok = true → lm = seMap bs ∧ Bag = seBlks bs ∧ Z = rsFin sp ap st (seStrip bs) (some (ys.map (·.1), e, l))) := by
                unfold Hid
                intro h
                obtain ⟨h0, h1, h2, h3⟩ := Ht.out h
                exact ⟨h1, h2, by rw [h3, show K - n = 0 from by omega]; rfl⟩
              refine wk_seq (fun K20 hK20 => ?_)
              refine wk_seq (fun K21 hK21 => ?_)
              refine wk_reg ?_
              iterate 2 (refine pl_take (v := ?_) rfl ?_ ?_; rotate_left; (· (go_simp; first | done | with_reducible rfl | rfl | omega | assumption | (simp; omega))); (try simp only [Act.put, aP, aZ, aS]))
              iterate 2 (refine pl_take (v := .bool false) rfl ?_ ?_; (· (go_simp; first | done | with_reducible rfl | rfl | omega | assumption | (simp; omega))); (try simp only [Act.put, aP, aZ, aS]))
              refine pl_skip (by kernel_rfl) ?_
              (try simp only [Act.put, aP, aZ, aS])
              refine pl_take (v := .bool false) rfl ?_ ?_
              · (go_simp; first | done | with_reducible rfl | rfl | omega | assumption | (simp; omega))
              (try simp only [Act.put, aP, aZ, aS])
              refine pl_done ?_
              refine hK21.out _ _ ?_
              (try clear hK21 K21)
              refine wp_cond_false rfl ?_
              refine wp_exit ?_
              refine (by assumption : ∀ a' w', Met _ a' w' → _) _ _ ?_
              go_meet
              case rel => exact ⟨ok, e, l, X, cx, n, ys, rfl, Hn, Ht2, Hf, hsC⟩
        case rest =>
          clear hsB hll Ht Hf
          obtain ⟨ok, e, l, X, cx, n, ys, rfl, Hn, Ht, Hf, hsC⟩ := hcut
          cases ok with
          | false =>
            obtain rfl := Hf.out rfl
            refine hK18.out _ _ ?_
            clear hK18 K18
            refine wk_seq (fun K25 hK25 => ?_)
            refine wk_seq (fun K26 hK26 => ?_)
            refine wk_reg ?_
            refine pl_take (v := .bool false) rfl ?_ ?_
            · (go_simp; first | done | with_reducible rfl | rfl | omega | assumption | (simp; omega))
            (try simp only [Act.put, aP, aZ, aS])
            iterate 2 (refine pl_take (v := .bool true) rfl ?_ ?_; (· (go_simp; first | done | with_reducible rfl | rfl | omega | assumption | (simp; omega))); (try simp only [Act.put, aP, aZ, aS]))
            iterate 3 (refine pl_skip (by kernel_rfl) ?_; (try simp only [Act.put, aP, aZ, aS]))
            refine pl_take (v := .bool true) rfl ?_ ?_
            · (go_simp; first | done | with_reducible rfl | rfl | omega | assumption | (simp; omega))
            (try simp only [Act.put, aP, aZ, aS])
            refine pl_done ?_
            refine hK26.out _ _ ?_
            (try clear hK26 K26)
            refine wp_cond_true rfl ?_
            refine wk_seq (fun K27 hK27 => ?_)
            refine wk_reg ?_
            iterate 2 (refine pl_take (v := ?_) rfl ?_ ?_; rotate_left; (· (go_simp; first | done | with_reducible rfl | rfl | omega | assumption | (simp; omega))); (try simp only [Act.put, aP, aZ, aS]))
            refine pl_done ?_
            refine hK27.out _ _ ?_
            (try clear hK27 K27)
            refine wp_ret ?_
            go_ret2
            exact .inl ⟨rfl, rfl, (by assumption : Sat w0 _ _).pick (by (repeat (first | exact Pick.nil _ | exact Pick.tail _ | exact Out.here _ | apply Out.there | apply Pick.cons | apply Pick.drop)))⟩
          | true =>
            obtain ⟨rfl, rfl, hZ⟩ := Ht.out rfl
            have c1 := fun (w : World) (L' : List HP) (buf : HP) (p : Nat) (hs : Sat w0 w (Rd1 buf p e l :: L')) => end_spec hs
            simp only [rsFin] at hZ
            obtain ⟨E, hE⟩ : ∃ E, rdEnd e l = E := ⟨_, rfl⟩
            rw [hE] at c1 hZ
            clear Ht Hf hE
            by_cases hE : E = 0
            · rw [if_pos hE] at hZ
              subst hZ hE
              refine hK18.out _ _ ?_
              clear hK18 K18
              refine wk_seq (fun K25 hK25 => ?_)
              refine wk_seq (fun K26 hK26 => ?_)
              refine wk_reg ?_
              refine pl_take (v := .bool true) rfl ?_ ?_
              · (go_simp; first | done | with_reducible rfl | rfl | omega | assumption | (simp; omega))
              (try simp only [Act.put, aP, aZ, aS])
              iterate 2 (refine pl_take (v := .bool false) rfl ?_ ?_; (· (go_simp; first | done | with_reducible rfl | rfl | omega | assumption | (simp; omega))); (try simp only [Act.put, aP, aZ, aS]))
              refine pl_take (v := ?_) (by kernel_rfl) ?_ ?_
              rotate_left
              · (go_simp; first | done | with_reducible rfl | rfl | omega | assumption | (simp; omega))
              (try simp only [Act.put, aP, aZ, aS])
              refine pl_eff (by kernel_rfl) (fun Kp hKp => ?_)
              go_simp
              (refine (c1 _ _ _ _ ((by assumption : Sat w0 _ _).pick (.cons (by (repeat (first | with_reducible exact Out.here _ | apply Out.there))) (.tail _)))).mono ?_; rintro e178 w178 ⟨rfl, rfl⟩)
              (try go_wp2_with fail)
              refine hKp.out _ _ ?_
              clear hKp Kp
              (try simp only [Act.put, aP, aZ, aS])
              refine pl_take (v := .bool false) (by kernel_rfl) ?_ ?_
              · (go_simp; first | done | with_reducible rfl | rfl | omega | assumption | (simp; omega))
              (try simp only [Act.put, aP, aZ, aS])
              refine pl_take (v := .bool false) rfl ?_ ?_
              · (go_simp; first | done | with_reducible rfl | rfl | omega | assumption | (simp; omega))
              (try simp only [Act.put, aP, aZ, aS])
              refine pl_done ?_
              refine hK26.out _ _ ?_
              (try clear hK26 K26)
              refine wp_cond_false rfl ?_
              refine wp_skip ?_
              refine hK25.out _ _ ?_
              (try clear hK25 K25)
              refine wk_seq (fun K28 hK28 => ?_)
              refine wk_reg ?_
              iterate 3 (refine pl_take (v := ?_) rfl ?_ ?_; rotate_left; (· (go_simp; first | done | with_reducible rfl | rfl | omega | assumption | (simp; omega))); (try simp only [Act.put, aP, aZ, aS]))
              refine pl_done ?_
              refine hK28.out _ _ ?_
              (try clear hK28 K28)
              refine wp_ret ?_
              go_ret2
              (obtain rfl := Hn.out; exact .inr ⟨⟨sp, ap, st, ys.map (·.1), seStrip bs⟩, p, rfl, rfl, MR.made (X := X) (cx := cx) (b := bm) (ys := ys) (bs := bs) rfl rfl (by simp only [mcBlk, List.length_map]; exact (by assumption : Sat w0 _ _).pick (by (repeat (first | exact Pick.nil _ | exact Pick.tail _ | exact Out.here _ | apply Out.there | apply Pick.cons | apply Pick.drop))))⟩)
            · rw [if_neg hE] at hZ
              subst hZ
              refine hK18.out _ _ ?_
              clear hK18 K18
              refine wk_seq (fun K25 hK25 => ?_)
              refine wk_seq (fun K26 hK26 => ?_)
              refine wk_reg ?_
              refine pl_take (v := .bool true) rfl ?_ ?_
              · (go_simp; first | done | with_reducible rfl | rfl | omega | assumption | (simp; omega))
              (try simp only [Act.put, aP, aZ, aS])
              iterate 2 (refine pl_take (v := .bool false) rfl ?_ ?_; (· (go_simp; first | done | with_reducible rfl | rfl | omega | assumption | (simp; omega))); (try simp only [Act.put, aP, aZ, aS]))
              refine pl_take (v := ?_) (by kernel_rfl) ?_ ?_
              rotate_left
              · (go_simp; first | done | with_reducible rfl | rfl | omega | assumption | (simp; omega))
              (try simp only [Act.put, aP, aZ, aS])
              refine pl_eff (by kernel_rfl) (fun Kp hKp => ?_)
              go_simp
              (refine (c1 _ _ _ _ ((by assumption : Sat w0 _ _).pick (.cons (by (repeat (first | with_reducible exact Out.here _ | apply Out.there))) (.tail _)))).mono ?_; rintro e178 w178 ⟨rfl, rfl⟩)
              (try go_wp2_with fail)
              refine hKp.out _ _ ?_
              clear hKp Kp
              (try simp only [Act.put, aP, aZ, aS])
              refine pl_take (v := .bool true) (by kernel_rfl) ?_ ?_
              · (go_simp; first | done | with_reducible rfl | rfl | omega | assumption | (simp; omega))
              (try simp only [Act.put, aP, aZ, aS])
              refine pl_take (v := .bool true) rfl ?_ ?_
              · (go_simp; first | done | with_reducible rfl | rfl | omega | assumption | (simp; omega))
              (try simp only [Act.put, aP, aZ, aS])
              refine pl_done ?_
              refine hK26.out _ _ ?_
              (try clear hK26 K26)
              refine wp_cond_true rfl ?_
              refine wk_seq (fun K27 hK27 => ?_)
              refine wk_reg ?_
              iterate 2 (refine pl_take (v := ?_) rfl ?_ ?_; rotate_left; (· (go_simp; first | done | with_reducible rfl | rfl | omega | assumption | (simp; omega))); (try simp only [Act.put, aP, aZ, aS]))
              refine pl_done ?_
              refine hK27.out _ _ ?_
              (try clear hK27 K27)
              refine wp_ret ?_
              go_ret2
              exact .inl ⟨rfl, rfl, (by assumption : Sat w0 _ _).pick (by (repeat (first | exact Pick.nil _ | exact Pick.tail _ | exact Out.here _ | apply Out.there | apply Pick.cons | apply Pick.drop)))⟩
  · have h : Mc.restore sp b = (none, 1) := by unfold Mc.restore; rw [if_pos (by omega)]
    rw [h]
    go_enter Try.func30, Try.ntmps30
    refine wk_seq (fun K0 hK0 => ?_)
    refine wk_reg ?_
    iterate 2 (refine pl_take (v := ?_) rfl ?_ ?_; rotate_left; (· (go_simp; first | done | with_reducible rfl | rfl | omega | assumption | (simp; omega))); (try simp only [Act.put, aP, aZ, aS]))
    refine pl_done ?_
    refine hK0.out _ _ ?_
    (try clear hK0 K0)
    refine wk_seq (fun K1 hK1 => ?_)
    refine wk_reg ?_
    refine pl_take (v := ?_) rfl ?_ ?_
    rotate_left
    · (go_simp; first | done | with_reducible rfl | rfl | omega | assumption | (simp; omega))
    (try simp only [Act.put, aP, aZ, aS])
    refine pl_eff rfl (fun Kp hKp => ?_)
    go_simp
    (refine (newM_no sp hsp (by assumption)).mono ?_; rintro e20 w20 ⟨rfl, hs20⟩)
    (try go_wp2_with fail)
    refine hKp.out _ _ ?_
    clear hKp Kp
    (try simp only [Act.put, aP, aZ, aS])
    iterate 5 (refine pl_take (v := ?_) rfl ?_ ?_; rotate_left; (· (go_simp; first | done | with_reducible rfl | rfl | omega | assumption | (simp; omega))); (try simp only [Act.put, aP, aZ, aS]))
    refine pl_done ?_
    refine hK1.out _ _ ?_
    (try clear hK1 K1)
    refine wk_seq (fun K2 hK2 => ?_)
    refine wk_seq (fun K3 hK3 => ?_)
    refine wk_reg ?_
    refine pl_take (v := ?_) rfl ?_ ?_
    rotate_left
    · (go_simp; first | done | with_reducible rfl | rfl | omega | assumption | (simp; omega))
    (try simp only [Act.put, aP, aZ, aS])
    refine pl_take (v := .bool true) rfl ?_ ?_
    · (go_simp; first | done | with_reducible rfl | rfl | omega | assumption | (simp; omega))
    (try simp only [Act.put, aP, aZ, aS])
    refine pl_done ?_
    refine hK3.out _ _ ?_
    (try clear hK3 K3)
    refine wp_cond_true rfl ?_
    refine wk_seq (fun K4 hK4 => ?_)
    refine wk_reg ?_
    iterate 3 (refine pl_take (v := ?_) rfl ?_ ?_; rotate_left; (· (go_simp; first | done | with_reducible rfl | rfl | omega | assumption | (simp; omega))); (try simp only [Act.put, aP, aZ, aS]))
    refine pl_done ?_
    refine hK4.out _ _ ?_
    (try clear hK4 K4)
    refine wp_ret ?_
    go_ret2
    exact .inl ⟨rfl, rfl, (by assumption : Sat w0 _ _).pick (by (repeat (first | exact Pick.nil _ | exact Pick.tail _ | exact Out.here _ | apply Out.there | apply Pick.cons | apply Pick.drop)))⟩
end Go.Proofs.Ytdlimjcidblneaa
