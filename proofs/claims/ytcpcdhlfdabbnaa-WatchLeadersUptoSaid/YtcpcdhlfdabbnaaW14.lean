/-
  Records that differ (watch.Same).
-/
import Derived.Test.YtcpcdhlfdabbnaaW5
namespace Go.Proofs.Ytcpcdhlfdabbnaa
open Go Go.RowKit Sl Go.Shelf
set_option maxHeartbeats 20000000
set_option maxRecDepth 8000

def sameR (b : List (List UInt8)) (f o : Int) : Nat → List (List UInt8) → Int
  | _, [] => -1
  | i, x :: l => if 0 ≤ (i : Int) + (f - o) ∧ (i : Int) + (f - o) < b.length ∧ b[((i : Int) + (f - o)).toNat]? ≠ some x then f + i else sameR b f o (i + 1) l

theorem sameR_spec {w0 w : World} {L : List HP} {A B : Option Addr} {n m ca cb : Nat} (a b : List (List UInt8)) (f o : Int) (hf : 0 ≤ f ∧ f < 1000) (ho : 0 ≤ o ∧ o < 1000) (ha : a.length ≤ 1048576) (hb : b.length ≤ 1048576) (hs : Sat w0 w L) (hA : RdBB w0 L A n a) (hB : RdBB w0 L B m b) :
    Calls Try.prog 20 #[.slice A n ca, .slice B m cb, .int .i64 f, .int .i64 o] w (fun e w' => e = .returned (.int .i64 (sameR b f o 0 a)) ∧ Sat w0 w' L) := by
  obtain ⟨R, hR⟩ : ∃ R, sameR b f o 0 a = R := ⟨_, rfl⟩
  rw [hR]
  have HR := Hid.mk' hR
  clear hR
  obtain ⟨va, ra, la, rfl, ea⟩ := hA
  obtain ⟨vb, rb, lb, rfl, eb⟩ := hB
  have hw1 : IntKind.i64.wrap (f - o) = f - o := IntWalk.i64_in _ (by omega)
  go_enter Try.func20, Try.ntmps20
  refine wk_seq (fun K0 hK0 => ?_)
  refine wk_reg ?_
  refine pl_take (v := ?_) rfl ?_ ?_
  rotate_left
  · (go_simp; first | done | with_reducible rfl | rfl | omega | assumption | (simp; omega))
  (try simp only [Act.put, aP, aZ, aS])
  refine pl_done ?_
  refine hK0.out _ _ ?_
  (try clear hK0 K0)
  refine wk_seq (fun K1 hK1 => ?_)
  refine wk_seq (fun K2 hK2 => ?_)
  refine wk_reg ?_
  iterate 3 (refine pl_take (v := ?_) rfl ?_ ?_; rotate_left; (· (go_simp; first | done | with_reducible rfl | rfl | omega | assumption | (simp; omega))); (try simp only [Act.put, aP, aZ, aS]))
  refine pl_done ?_
  refine hK2.out _ _ ?_
  (try clear hK2 K2)
  refine wp_block ?_
  -- at a loop
  go_loopw [14] (fun i wr => ∃ k : Nat, i = .int .i64 k ∧ k ≤ a.length ∧ Hid (R = sameR b f o k (a.drop k)) ∧ Sat w0 wr L) (fun i _ => a.length - (intOf i).toNat)
  case atStart => exact ⟨0, rfl, Nat.zero_le _, by unfold Hid; rw [← HR.out]; rfl, (by assumption : Sat w0 _ _).pick (by (repeat (first | exact Pick.nil _ | exact Pick.tail _ | exact Out.here _ | apply Out.there | apply Pick.cons | apply Pick.drop)))⟩
  case round =>
    obtain ⟨k, rfl, hk, Hk, hsC⟩ := hrel
    by_cases hlt : k < a.length
    · obtain ⟨x, hx⟩ : ∃ x, a[k]? = some x := ⟨a[k], List.getElem?_eq_getElem hlt⟩
      obtain ⟨Bx, cx, hvx, hrx⟩ := ea k x hx
      obtain ⟨ga, oa, rfl⟩ := ra.some_of hs (by omega)
      have hcA := ra.elt hvx
      have Hx : Hid (R = if 0 ≤ (k : Int) + (f - o) ∧ (k : Int) + (f - o) < b.length ∧ b[((k : Int) + (f - o)).toNat]? ≠ some x then f + k else sameR b f o (k + 1) (a.drop (k + 1))) := by
        unfold Hid; rw [Hk.out, drop_at' hx]; rfl
      have i0 : (0 : Int) ≤ (k : Int) := by omega
      have i1 : (k : Int) < (a.length : Int) := by omega
      have hwk : IntKind.i64.wrap ((k : Int) + 1) = (k : Int) + 1 := IntWalk.i64_in _ (by omega)
      have hwf : IntKind.i64.wrap (f + (k : Int)) = f + (k : Int) := IntWalk.i64_in _ (by omega)
      by_cases c1 : 0 ≤ (k : Int) + (f - o)
      · obtain ⟨kb, hkb⟩ : ∃ kb : Nat, (k : Int) + (f - o) = (kb : Int) := ⟨((k : Int) + (f - o)).toNat, by omega⟩
        have hw2 : IntKind.i64.wrap ((k : Int) + (f - o)) = (kb : Int) := by rw [IntWalk.i64_in _ (by omega)]; exact hkb
        rw [hkb, Int.toNat_natCast] at Hx
        have j0 : (0 : Int) ≤ (kb : Int) := by omega
        by_cases c2 : kb < b.length
        · obtain ⟨y, hy⟩ : ∃ y, b[kb]? = some y := ⟨b[kb], List.getElem?_eq_getElem c2⟩
          obtain ⟨By, cy, hvy, hry⟩ := eb kb y hy
          obtain ⟨gb, ob, rfl⟩ := rb.some_of hs (by omega)
          have hcB := rb.elt hvy
          have j1 : (kb : Int) < (b.length : Int) := by omega
          obtain ⟨β, hβ⟩ : ∃ β, (x == y) = β := ⟨_, rfl⟩
          have hq : ∀ {w : World} {L : List HP}, Sat w0 w L → Rd w0 L Bx x.length 1 (B8 x) → Rd w0 L By y.length 1 (B8 y) → Calls Try.prog 47 #[.slice Bx x.length cx, .slice By y.length cy] w fun r w' => r = .returned (.bool β) ∧ w = w' := fun hs h h' => by
            rw [← hβ]; exact equal_spec x y hs h h'
          have Hn : Hid (R = if β then sameR b f o (k + 1) (a.drop (k + 1)) else f + k) := by
            unfold Hid; rw [Hx.out, hy, ← hβ]
            by_cases e : x = y
            · subst e; rw [if_neg (by simp)]; simp
            · rw [if_pos ⟨j0, j1, fun h => e (Option.some.inj h).symm⟩, if_neg (by simpa using e)]
          clear hx hvx hvy hy hβ ea eb c1 hkb
          cases β with
          | true =>
            refine wk_seq (fun K3 hK3 => ?_)
            refine wk_reg ?_
            refine pl_take (v := .bool true) rfl ?_ ?_
            · (go_simp; first | done | with_reducible rfl | rfl | omega | assumption | (simp; omega))
            (try simp only [Act.put, aP, aZ, aS])
            refine pl_done ?_
            refine hK3.out _ _ ?_
            (try clear hK3 K3)
            refine wk_seq (fun K4 hK4 => ?_)
            refine wp_cond_true rfl ?_
            refine wp_skip ?_
            refine hK4.out _ _ ?_
            (try clear hK4 K4)
            refine wk_seq (fun K5 hK5 => ?_)
            refine wp_block ?_
            refine wk_seq (fun K6 hK6 => ?_)
            refine wk_reg ?_
            iterate 5 (refine pl_take (v := ?_) rfl ?_ ?_; rotate_left; (· (first | ((with_reducible apply yl_load); assumption; rfl; (repeat (first | with_reducible assumption | ((with_reducible apply Cl.own); exact rfl) | ((with_reducible apply Cl.blkL); exact rfl) | with_reducible apply Cl.cons)); rfl) | (go_simp; first | done | with_reducible rfl | rfl | omega | assumption | (simp; omega)))); (try simp only [Act.put, aP, aZ, aS]))
            refine pl_done ?_
            refine hK6.out _ _ ?_
            (try clear hK6 K6)
            refine wk_seq (fun K7 hK7 => ?_)
            refine wk_reg ?_
            iterate 6 (refine pl_take (v := ?_) rfl ?_ ?_; rotate_left; (· (go_simp; first | done | with_reducible rfl | rfl | omega | assumption | (simp; omega))); (try simp only [Act.put, aP, aZ, aS]))
            refine pl_done ?_
            refine hK7.out _ _ ?_
            (try clear hK7 K7)
            refine wk_seq (fun K8 hK8 => ?_)
            refine wk_reg ?_
            refine pl_take (v := ?_) rfl ?_ ?_
            rotate_left
            · (go_simp; first | done | with_reducible rfl | rfl | omega | assumption | (simp; omega))
            (try simp only [Act.put, aP, aZ, aS])
            iterate 2 (refine pl_take (v := .bool true) rfl ?_ ?_; (· (go_simp; first | done | with_reducible rfl | rfl | omega | assumption | (simp; omega))); (try simp only [Act.put, aP, aZ, aS]))
            iterate 3 (refine pl_take (v := ?_) (by kernel_rfl) ?_ ?_; rotate_left; (· (go_simp; first | done | with_reducible rfl | rfl | omega | assumption | (simp; omega))); (try simp only [Act.put, aP, aZ, aS]))
            refine pl_take (v := .bool true) (by kernel_rfl) ?_ ?_
            · (go_simp; first | done | with_reducible rfl | rfl | omega | assumption | (simp; omega))
            (try simp only [Act.put, aP, aZ, aS])
            iterate 2 (refine pl_take (v := .bool true) rfl ?_ ?_; (· (go_simp; first | done | with_reducible rfl | rfl | omega | assumption | (simp; omega))); (try simp only [Act.put, aP, aZ, aS]))
            iterate 5 (refine pl_take (v := ?_) (by kernel_rfl) ?_ ?_; rotate_left; (· (first | ((with_reducible apply yl_load); assumption; rfl; (repeat (first | with_reducible assumption | ((with_reducible apply Cl.own); exact rfl) | ((with_reducible apply Cl.blkL); exact rfl) | with_reducible apply Cl.cons)); rfl) | (go_simp; first | done | with_reducible rfl | rfl | omega | assumption | (simp; omega)))); (try simp only [Act.put, aP, aZ, aS]))
            refine pl_eff (by kernel_rfl) (fun Kp hKp => ?_)
            go_simp
            (refine (hq (by assumption) (by (repeat (first | with_reducible assumption | with_reducible exact Rd.own | with_reducible exact Rd.nil | with_reducible apply Rd.cons))) (by (repeat (first | with_reducible assumption | with_reducible exact Rd.own | with_reducible exact Rd.nil | with_reducible apply Rd.cons)))).mono ?_; rintro e38 w38 ⟨rfl, rfl⟩)
            (try go_wp2_with fail)
            refine hKp.out _ _ ?_
            clear hKp Kp
            (try simp only [Act.put, aP, aZ, aS])
            refine pl_take (v := .bool false) (by kernel_rfl) ?_ ?_
            · (go_simp; first | done | with_reducible rfl | rfl | omega | assumption | (simp; omega))
            (try simp only [Act.put, aP, aZ, aS])
            refine pl_take (v := .bool false) rfl ?_ ?_
            · (go_simp; first | done | with_reducible rfl | rfl | omega | assumption | (simp; omega))
            (try simp only [Act.put, aP, aZ, aS])
            refine pl_done ?_
            refine hK8.out _ _ ?_
            (try clear hK8 K8)
            refine wp_cond_false rfl ?_
            refine wp_skip ?_
            refine hK5.out _ _ ?_
            (try clear hK5 K5)
            refine wk_reg ?_
            iterate 2 (refine pl_take (v := ?_) rfl ?_ ?_; rotate_left; (· (go_simp; first | done | with_reducible rfl | rfl | omega | assumption | (simp; omega))); (try simp only [Act.put, aP, aZ, aS]))
            refine pl_done ?_
            dsimp only [Exit.then]
            go_roundw
            case rel => exact ⟨k + 1, by go_num, by omega, by unfold Hid; rw [Hn.out]; simp, (by assumption : Sat w0 _ _).pick (by (repeat (first | exact Pick.nil _ | exact Pick.tail _ | exact Out.here _ | apply Out.there | apply Pick.cons | apply Pick.drop)))⟩
            case measure => simp [intOf]; omega
          | false =>
            obtain rfl : R = f + k := by rw [Hn.out]; simp
            refine wk_seq (fun K3 hK3 => ?_)
            refine wk_reg ?_
            refine pl_take (v := .bool true) rfl ?_ ?_
            · (go_simp; first | done | with_reducible rfl | rfl | omega | assumption | (simp; omega))
            (try simp only [Act.put, aP, aZ, aS])
            refine pl_done ?_
            refine hK3.out _ _ ?_
            (try clear hK3 K3)
            refine wk_seq (fun K4 hK4 => ?_)
            refine wp_cond_true rfl ?_
            refine wp_skip ?_
            refine hK4.out _ _ ?_
            (try clear hK4 K4)
            refine wk_seq (fun K5 hK5 => ?_)
            refine wp_block ?_
            refine wk_seq (fun K6 hK6 => ?_)
            refine wk_reg ?_
            iterate 5 (refine pl_take (v := ?_) rfl ?_ ?_; rotate_left; (· (first | ((with_reducible apply yl_load); assumption; rfl; (repeat (first | with_reducible assumption | ((with_reducible apply Cl.own); exact rfl) | ((with_reducible apply Cl.blkL); exact rfl) | with_reducible apply Cl.cons)); rfl) | (go_simp; first | done | with_reducible rfl | rfl | omega | assumption | (simp; omega)))); (try simp only [Act.put, aP, aZ, aS]))
            refine pl_done ?_
            refine hK6.out _ _ ?_
            (try clear hK6 K6)
            refine wk_seq (fun K7 hK7 => ?_)
            refine wk_reg ?_
            iterate 6 (refine pl_take (v := ?_) rfl ?_ ?_; rotate_left; (· (go_simp; first | done | with_reducible rfl | rfl | omega | assumption | (simp; omega))); (try simp only [Act.put, aP, aZ, aS]))
            refine pl_done ?_
            refine hK7.out _ _ ?_
            (try clear hK7 K7)
            refine wk_seq (fun K8 hK8 => ?_)
            refine wk_reg ?_
            refine pl_take (v := ?_) rfl ?_ ?_
            rotate_left
            · (go_simp; first | done | with_reducible rfl | rfl | omega | assumption | (simp; omega))
            (try simp only [Act.put, aP, aZ, aS])
            iterate 2 (refine pl_take (v := .bool true) rfl ?_ ?_; (· (go_simp; first | done | with_reducible rfl | rfl | omega | assumption | (simp; omega))); (try simp only [Act.put, aP, aZ, aS]))
            iterate 3 (refine pl_take (v := ?_) (by kernel_rfl) ?_ ?_; rotate_left; (· (go_simp; first | done | with_reducible rfl | rfl | omega | assumption | (simp; omega))); (try simp only [Act.put, aP, aZ, aS]))
            refine pl_take (v := .bool true) (by kernel_rfl) ?_ ?_
            · (go_simp; first | done | with_reducible rfl | rfl | omega | assumption | (simp; omega))
            (try simp only [Act.put, aP, aZ, aS])
            iterate 2 (refine pl_take (v := .bool true) rfl ?_ ?_; (· (go_simp; first | done | with_reducible rfl | rfl | omega | assumption | (simp; omega))); (try simp only [Act.put, aP, aZ, aS]))
            iterate 5 (refine pl_take (v := ?_) (by kernel_rfl) ?_ ?_; rotate_left; (· (first | ((with_reducible apply yl_load); assumption; rfl; (repeat (first | with_reducible assumption | ((with_reducible apply Cl.own); exact rfl) | ((with_reducible apply Cl.blkL); exact rfl) | with_reducible apply Cl.cons)); rfl) | (go_simp; first | done | with_reducible rfl | rfl | omega | assumption | (simp; omega)))); (try simp only [Act.put, aP, aZ, aS]))
            refine pl_eff (by kernel_rfl) (fun Kp hKp => ?_)
            go_simp
            (refine (hq (by assumption) (by (repeat (first | with_reducible assumption | with_reducible exact Rd.own | with_reducible exact Rd.nil | with_reducible apply Rd.cons))) (by (repeat (first | with_reducible assumption | with_reducible exact Rd.own | with_reducible exact Rd.nil | with_reducible apply Rd.cons)))).mono ?_; rintro e38 w38 ⟨rfl, rfl⟩)
            (try go_wp2_with fail)
            refine hKp.out _ _ ?_
            clear hKp Kp
            (try simp only [Act.put, aP, aZ, aS])
            refine pl_take (v := .bool true) (by kernel_rfl) ?_ ?_
            · (go_simp; first | done | with_reducible rfl | rfl | omega | assumption | (simp; omega))
            (try simp only [Act.put, aP, aZ, aS])
            refine pl_take (v := .bool true) rfl ?_ ?_
            · (go_simp; first | done | with_reducible rfl | rfl | omega | assumption | (simp; omega))
            (try simp only [Act.put, aP, aZ, aS])
            refine pl_done ?_
            refine hK8.out _ _ ?_
            (try clear hK8 K8)
            refine wp_cond_true rfl ?_
            refine wk_seq (fun K9 hK9 => ?_)
            refine wk_reg ?_
            iterate 4 (refine pl_take (v := ?_) rfl ?_ ?_; rotate_left; (· (go_simp; first | done | with_reducible rfl | rfl | omega | assumption | (simp; omega))); (try simp only [Act.put, aP, aZ, aS]))
            refine pl_done ?_
            refine hK9.out _ _ ?_
            (try clear hK9 K9)
            refine wp_ret ?_
            go_ret
            exact ⟨rfl, (by assumption : Sat w0 _ _).pick (by (repeat (first | exact Pick.nil _ | exact Pick.tail _ | exact Out.here _ | apply Out.there | apply Pick.cons | apply Pick.drop)))⟩
        · have j1 : ¬ (kb : Int) < (b.length : Int) := by omega
          have Hn : Hid (R = sameR b f o (k + 1) (a.drop (k + 1))) := by unfold Hid; rw [Hx.out, if_neg (by rintro ⟨_, h, _⟩; exact j1 h)]
          clear hx hvx ea eb c1 hkb
          refine wk_seq (fun K3 hK3 => ?_)
          refine wk_reg ?_
          refine pl_take (v := .bool true) rfl ?_ ?_
          · (go_simp; first | done | with_reducible rfl | rfl | omega | assumption | (simp; omega))
          (try simp only [Act.put, aP, aZ, aS])
          refine pl_done ?_
          refine hK3.out _ _ ?_
          (try clear hK3 K3)
          refine wk_seq (fun K4 hK4 => ?_)
          refine wp_cond_true rfl ?_
          refine wp_skip ?_
          refine hK4.out _ _ ?_
          (try clear hK4 K4)
          refine wk_seq (fun K5 hK5 => ?_)
          refine wp_block ?_
          refine wk_seq (fun K6 hK6 => ?_)
          refine wk_reg ?_
          iterate 5 (refine pl_take (v := ?_) rfl ?_ ?_; rotate_left; (· (first | ((with_reducible apply yl_load); assumption; rfl; (repeat (first | with_reducible assumption | ((with_reducible apply Cl.own); exact rfl) | ((with_reducible apply Cl.blkL); exact rfl) | with_reducible apply Cl.cons)); rfl) | (go_simp; first | done | with_reducible rfl | rfl | omega | assumption | (simp; omega)))); (try simp only [Act.put, aP, aZ, aS]))
          refine pl_done ?_
          refine hK6.out _ _ ?_
          (try clear hK6 K6)
          refine wk_seq (fun K7 hK7 => ?_)
          refine wk_reg ?_
          iterate 6 (refine pl_take (v := ?_) rfl ?_ ?_; rotate_left; (· (go_simp; first | done | with_reducible rfl | rfl | omega | assumption | (simp; omega))); (try simp only [Act.put, aP, aZ, aS]))
          refine pl_done ?_
          refine hK7.out _ _ ?_
          (try clear hK7 K7)
          refine wk_seq (fun K8 hK8 => ?_)
          refine wk_reg ?_
          refine pl_take (v := ?_) rfl ?_ ?_
          rotate_left
          · (go_simp; first | done | with_reducible rfl | rfl | omega | assumption | (simp; omega))
          (try simp only [Act.put, aP, aZ, aS])
          iterate 2 (refine pl_take (v := .bool true) rfl ?_ ?_; (· (go_simp; first | done | with_reducible rfl | rfl | omega | assumption | (simp; omega))); (try simp only [Act.put, aP, aZ, aS]))
          iterate 3 (refine pl_take (v := ?_) (by kernel_rfl) ?_ ?_; rotate_left; (· (go_simp; first | done | with_reducible rfl | rfl | omega | assumption | (simp; omega))); (try simp only [Act.put, aP, aZ, aS]))
          refine pl_take (v := .bool false) (by kernel_rfl) ?_ ?_
          · (go_simp; first | done | with_reducible rfl | rfl | omega | assumption | (simp; omega))
          (try simp only [Act.put, aP, aZ, aS])
          iterate 2 (refine pl_take (v := .bool false) rfl ?_ ?_; (· (go_simp; first | done | with_reducible rfl | rfl | omega | assumption | (simp; omega))); (try simp only [Act.put, aP, aZ, aS]))
          iterate 7 (refine pl_skip (by kernel_rfl) ?_; (try simp only [Act.put, aP, aZ, aS]))
          refine pl_take (v := .bool false) rfl ?_ ?_
          · (go_simp; first | done | with_reducible rfl | rfl | omega | assumption | (simp; omega))
          (try simp only [Act.put, aP, aZ, aS])
          refine pl_done ?_
          refine hK8.out _ _ ?_
          (try clear hK8 K8)
          refine wp_cond_false rfl ?_
          refine wp_skip ?_
          refine hK5.out _ _ ?_
          (try clear hK5 K5)
          refine wk_reg ?_
          iterate 2 (refine pl_take (v := ?_) rfl ?_ ?_; rotate_left; (· (go_simp; first | done | with_reducible rfl | rfl | omega | assumption | (simp; omega))); (try simp only [Act.put, aP, aZ, aS]))
          refine pl_done ?_
          dsimp only [Exit.then]
          go_roundw
          case rel => exact ⟨k + 1, by go_num, by omega, Hn, (by assumption : Sat w0 _ _).pick (by (repeat (first | exact Pick.nil _ | exact Pick.tail _ | exact Out.here _ | apply Out.there | apply Pick.cons | apply Pick.drop)))⟩
          case measure => simp [intOf]; omega
      · have hw2 : IntKind.i64.wrap ((k : Int) + (f - o)) = (k : Int) + (f - o) := IntWalk.i64_in _ (by omega)
        have Hn : Hid (R = sameR b f o (k + 1) (a.drop (k + 1))) := by unfold Hid; rw [Hx.out, if_neg (by rintro ⟨h, _⟩; exact c1 h)]
        clear hx hvx ea eb
        refine wk_seq (fun K3 hK3 => ?_)
        refine wk_reg ?_
        refine pl_take (v := .bool true) rfl ?_ ?_
        · (go_simp; first | done | with_reducible rfl | rfl | omega | assumption | (simp; omega))
        (try simp only [Act.put, aP, aZ, aS])
        refine pl_done ?_
        refine hK3.out _ _ ?_
        (try clear hK3 K3)
        refine wk_seq (fun K4 hK4 => ?_)
        refine wp_cond_true rfl ?_
        refine wp_skip ?_
        refine hK4.out _ _ ?_
        (try clear hK4 K4)
        refine wk_seq (fun K5 hK5 => ?_)
        refine wp_block ?_
        refine wk_seq (fun K6 hK6 => ?_)
        refine wk_reg ?_
        iterate 5 (refine pl_take (v := ?_) rfl ?_ ?_; rotate_left; (· (first | ((with_reducible apply yl_load); assumption; rfl; (repeat (first | with_reducible assumption | ((with_reducible apply Cl.own); exact rfl) | ((with_reducible apply Cl.blkL); exact rfl) | with_reducible apply Cl.cons)); rfl) | (go_simp; first | done | with_reducible rfl | rfl | omega | assumption | (simp; omega)))); (try simp only [Act.put, aP, aZ, aS]))
        refine pl_done ?_
        refine hK6.out _ _ ?_
        (try clear hK6 K6)
        refine wk_seq (fun K7 hK7 => ?_)
        refine wk_reg ?_
        iterate 6 (refine pl_take (v := ?_) rfl ?_ ?_; rotate_left; (· (go_simp; first | done | with_reducible rfl | rfl | omega | assumption | (simp; omega))); (try simp only [Act.put, aP, aZ, aS]))
        refine pl_done ?_
        refine hK7.out _ _ ?_
        (try clear hK7 K7)
        refine wk_seq (fun K8 hK8 => ?_)
        refine wk_reg ?_
        refine pl_take (v := ?_) rfl ?_ ?_
        rotate_left
        · (go_simp; first | done | with_reducible rfl | rfl | omega | assumption | (simp; omega))
        (try simp only [Act.put, aP, aZ, aS])
        iterate 2 (refine pl_take (v := .bool false) rfl ?_ ?_; (· (go_simp; first | done | with_reducible rfl | rfl | omega | assumption | (simp; omega))); (try simp only [Act.put, aP, aZ, aS]))
        iterate 4 (refine pl_skip (by kernel_rfl) ?_; (try simp only [Act.put, aP, aZ, aS]))
        iterate 2 (refine pl_take (v := .bool false) rfl ?_ ?_; (· (go_simp; first | done | with_reducible rfl | rfl | omega | assumption | (simp; omega))); (try simp only [Act.put, aP, aZ, aS]))
        iterate 7 (refine pl_skip (by kernel_rfl) ?_; (try simp only [Act.put, aP, aZ, aS]))
        refine pl_take (v := .bool false) rfl ?_ ?_
        · (go_simp; first | done | with_reducible rfl | rfl | omega | assumption | (simp; omega))
        (try simp only [Act.put, aP, aZ, aS])
        refine pl_done ?_
        refine hK8.out _ _ ?_
        (try clear hK8 K8)
        refine wp_cond_false rfl ?_
        refine wp_skip ?_
        refine hK5.out _ _ ?_
        (try clear hK5 K5)
        refine wk_reg ?_
        iterate 2 (refine pl_take (v := ?_) rfl ?_ ?_; rotate_left; (· (go_simp; first | done | with_reducible rfl | rfl | omega | assumption | (simp; omega))); (try simp only [Act.put, aP, aZ, aS]))
        refine pl_done ?_
        dsimp only [Exit.then]
        go_roundw
        case rel => exact ⟨k + 1, by go_num, by omega, Hn, (by assumption : Sat w0 _ _).pick (by (repeat (first | exact Pick.nil _ | exact Pick.tail _ | exact Out.here _ | apply Out.there | apply Pick.cons | apply Pick.drop)))⟩
        case measure => simp [intOf]; omega
    · obtain rfl : k = a.length := by omega
      obtain rfl : R = -1 := by rw [Hk.out, List.drop_length]; rfl
      refine wk_seq (fun K3 hK3 => ?_)
      refine wk_reg ?_
      refine pl_take (v := .bool false) rfl ?_ ?_
      · (go_simp; first | done | with_reducible rfl | rfl | omega | assumption | (simp; omega))
      (try simp only [Act.put, aP, aZ, aS])
      refine pl_done ?_
      refine hK3.out _ _ ?_
      (try clear hK3 K3)
      refine wk_seq (fun K4 hK4 => ?_)
      refine wp_cond_false rfl ?_
      refine wp_exit ?_
      refine hK1.out _ _ ?_
      (try clear hK1 K1)
      refine wk_seq (fun K10 hK10 => ?_)
      refine wk_reg ?_
      refine pl_take (v := ?_) rfl ?_ ?_
      rotate_left
      · (go_simp; first | done | with_reducible rfl | rfl | omega | assumption | (simp; omega))
      (try simp only [Act.put, aP, aZ, aS])
      refine pl_done ?_
      refine hK10.out _ _ ?_
      (try clear hK10 K10)
      refine wp_ret ?_
      go_ret
      exact ⟨rfl, (by assumption : Sat w0 _ _).pick (by (repeat (first | exact Pick.nil _ | exact Pick.tail _ | exact Out.here _ | apply Out.there | apply Pick.cons | apply Pick.drop)))⟩
end Go.Proofs.Ytcpcdhlfdabbnaa
