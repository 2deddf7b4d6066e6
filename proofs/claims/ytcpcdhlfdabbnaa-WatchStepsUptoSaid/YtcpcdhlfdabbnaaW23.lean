/-
  Lists of servers: Right and Beside of the program; Right of the document.
-/
import Derived.Test.YtcpcdhlfdabbnaaW22
namespace Go.Proofs.Ytcpcdhlfdabbnaa
open Go Go.RowKit Sl Go.Shelf
set_option maxHeartbeats 20000000
set_option maxRecDepth 8000

theorem rightC_spec {w0 w : World} {L : List HP} {A : Option Addr} {n c : Nat} (xs : List Int) (hx : Hid (n = xs.length)) (hn : n ≤ 1048576) (hs : Sat w0 w L) (hA : Rd w0 L A n 1 (I8 xs)) :
    Calls Try.prog 57 #[.slice A n c] w (RetB w0 L (okServers xs)) := by
  obtain ⟨R, hR⟩ : ∃ R, okServers xs = R := ⟨_, rfl⟩
  have hO : R = (decide (1 ≤ n ∧ n ≤ 7) && rise (-1) xs) := by rw [← hR, okServers, hx.out]
  have HO := Hid.mk' hO
  rw [hR]
  clear hR hO
  go_enter Try.func57, Try.ntmps57
  refine wk_seq (fun K0 hK0 => ?_)
  refine wk_reg ?_
  refine pl_take (v := .bool false) rfl ?_ ?_
  · (go_simp; first | done | with_reducible rfl | rfl | omega | assumption | (simp; omega))
  (try simp only [Act.put, aP, aZ, aS])
  refine pl_done ?_
  refine hK0.out _ _ ?_
  (try clear hK0 K0)
  refine wk_seq (fun K1 hK1 => ?_)
  refine wk_seq (fun K2 hK2 => ?_)
  refine wk_reg ?_
  iterate 3 (refine pl_take (v := ?_) rfl ?_ ?_; rotate_left; (· (go_simp; first | done | with_reducible rfl | rfl | omega | assumption | (simp; omega))); (try simp only [Act.put, aP, aZ, aS]))
  refine pl_done ?_
  refine hK2.out _ _ ?_
  (try clear hK2 K2)
  refine wp_block ?_
  -- at a loop
  go_loopw [6] (fun s6 wr => ∃ (k : Nat) (last : Int), s6 = .int .i64 k ∧ k ≤ n ∧ Hid (-1 ≤ last ∧ (k = 0 → last = -1) ∧ (0 < k → xs[k - 1]? = some last) ∧ rise (-1) xs = rise last (xs.drop k)) ∧ Sat w0 wr L) (fun s6 _ => n - (intOf s6).toNat)
  case atStart => exact ⟨0, -1, rfl, Nat.zero_le _, ⟨by omega, fun _ => rfl, by omega, rfl⟩, (by assumption : Sat w0 _ _).pick (by (repeat (first | exact Pick.nil _ | exact Pick.tail _ | exact Out.here _ | apply Out.there | apply Pick.cons | apply Pick.drop)))⟩
  case round =>
    obtain ⟨k, last, rfl, hk, Hk, hsC⟩ := hrel
    by_cases hkn : k < n
    · obtain ⟨x, hx1⟩ : ∃ x, xs[k]? = some x := ⟨xs[k]'(by have := hx.out; omega), List.getElem?_eq_getElem _⟩
      obtain ⟨ga, oa, rfl⟩ := hA.some_of hs (by omega)
      have ca := hA.elt (I8_at xs k x hx1)
      have i0 : (0 : Int) ≤ (k : Int) := by omega
      have i1 : (k : Int) < (n : Int) := by omega
      have hwk : IntKind.i64.wrap ((k : Int) + 1) = (k : Int) + 1 := IntWalk.i64_in _ (by omega)
      have Hr : Hid (rise (-1) xs = (decide (last < x ∧ x < 16) && rise x (xs.drop (k + 1)))) := by unfold Hid; rw [Hk.out.2.2.2, drop_at xs k x hx1]; rfl
      have Hx1 := Hid.mk' hx1
      have bad : ¬ (last < x ∧ x < 16) → R = false := fun h => by
        rw [HO.out, Hr.out]
        simp only [h, decide_false, Bool.false_and, Bool.and_false]
      have good : last < x ∧ x < 16 → Hid (rise (-1) xs = rise x (xs.drop (k + 1))) := fun h => by
        unfold Hid
        rw [Hr.out, decide_eq_true h, Bool.true_and]
      clear hx1
      by_cases hx0 : x < 0
      · obtain rfl := bad (by have := Hk.out.1; omega)
        clear bad good
        refine wk_seq (fun K3 hK3 => ?_)
        refine wk_reg ?_
        refine pl_take (v := .bool true) rfl ?_ ?_
        · (go_simp; first | done | with_reducible rfl | rfl | omega | assumption | (simp; omega))
        (try simp only [Act.put, aP, aZ, aS])
        refine pl_done ?_
        refine hK3.out _ _ ?_
        (try clear hK3 K3)
        refine wk_seq (fun K4 hK4 => ?_)
        refine wp_cond_true rfl ?_
        refine wp_skip ?_
        refine hK4.out _ _ ?_
        (try clear hK4 K4)
        refine wk_seq (fun K5 hK5 => ?_)
        refine wp_block ?_
        refine wk_seq (fun K6 hK6 => ?_)
        refine wk_reg ?_
        iterate 2 (refine pl_take (v := ?_) rfl ?_ ?_; rotate_left; (· (go_simp; first | done | with_reducible rfl | rfl | omega | assumption | (simp; omega))); (try simp only [Act.put, aP, aZ, aS]))
        refine pl_done ?_
        refine hK6.out _ _ ?_
        (try clear hK6 K6)
        refine wk_seq (fun K7 hK7 => ?_)
        refine rg_start rfl (by assumption) (fun wr4 hsr4 => ?_)
        refine rg_take (i := 0) (v := ?_) rfl (by kernel_rfl) (by kernel_rfl) (by kernel_rfl) (fun _ _ _ h => h) rfl (by assumption) ?_ ?_
        rotate_left
        · intro w hSw; (go_simp; first | done | with_reducible rfl | rfl | omega | assumption | (simp; omega))
        (try simp only [Act.put, aP, aZ, aS])
        refine rg_take (i := 1) (v := ?_) rfl (by kernel_rfl) (by kernel_rfl) (by kernel_rfl) (fun _ _ _ h => h) rfl (by assumption) ?_ ?_
        rotate_left
        · intro w hSw; (go_simp; first | done | with_reducible rfl | rfl | omega | assumption | (simp; omega))
        (try simp only [Act.put, aP, aZ, aS])
        refine rg_take (i := 2) (v := ?_) rfl (by kernel_rfl) (by kernel_rfl) (by kernel_rfl) (fun _ _ _ h => h) rfl (by assumption) ?_ ?_
        rotate_left
        · intro w hSw; (go_simp; first | done | with_reducible rfl | rfl | omega | assumption | (simp; omega))
        (try simp only [Act.put, aP, aZ, aS])
        refine rg_take (i := 3) (v := ?_) rfl (by kernel_rfl) (by kernel_rfl) (by kernel_rfl) (fun _ _ _ h => h) rfl (by assumption) ?_ ?_
        rotate_left
        · intro w hSw; ((with_reducible apply yl_load); assumption; rfl; (repeat (first | with_reducible assumption | ((with_reducible apply Cl.own); exact rfl) | ((with_reducible apply Cl.blkL); exact rfl) | with_reducible apply Cl.cons)); rfl)
        (try simp only [Act.put, aP, aZ, aS])
        refine rg_take (i := 4) (v := .bool true) rfl (by kernel_rfl) (by kernel_rfl) (by kernel_rfl) (fun _ _ _ h => h) rfl (by assumption) ?_ ?_
        · intro w hSw; (go_simp; first | done | with_reducible rfl | rfl | omega | assumption | (simp; omega))
        (try simp only [Act.put, aP, aZ, aS])
        refine rg_take (i := 5) (v := .bool true) rfl (by kernel_rfl) (by kernel_rfl) (by kernel_rfl) (fun _ _ _ h => h) rfl (by assumption) ?_ ?_
        · intro w hSw; (go_simp; first | done | with_reducible rfl | rfl | omega | assumption | (simp; omega))
        (try simp only [Act.put, aP, aZ, aS])
        refine rg_skip (i := 6) rfl (by kernel_rfl) (by kernel_rfl) (by kernel_rfl) (fun _ _ _ h => h) (by kernel_rfl) (by assumption) ?_
        (try simp only [Act.put, aP, aZ, aS])
        refine rg_skip (i := 7) rfl (by kernel_rfl) (by kernel_rfl) (by kernel_rfl) (fun _ _ _ h => h) (by kernel_rfl) (by assumption) ?_
        (try simp only [Act.put, aP, aZ, aS])
        refine rg_skip (i := 8) rfl (by kernel_rfl) (by kernel_rfl) (by kernel_rfl) (fun _ _ _ h => h) (by kernel_rfl) (by assumption) ?_
        (try simp only [Act.put, aP, aZ, aS])
        refine rg_skip (i := 9) rfl (by kernel_rfl) (by kernel_rfl) (by kernel_rfl) (fun _ _ _ h => h) (by kernel_rfl) (by assumption) ?_
        (try simp only [Act.put, aP, aZ, aS])
        refine rg_skip (i := 10) rfl (by kernel_rfl) (by kernel_rfl) (by kernel_rfl) (fun _ _ _ h => h) (by kernel_rfl) (by assumption) ?_
        (try simp only [Act.put, aP, aZ, aS])
        refine rg_take (i := 11) (v := .bool true) rfl (by kernel_rfl) (by kernel_rfl) (by kernel_rfl) (fun _ _ _ h => h) rfl (by assumption) ?_ ?_
        · intro w hSw; (go_simp; first | done | with_reducible rfl | rfl | omega | assumption | (simp; omega))
        (try simp only [Act.put, aP, aZ, aS])
        refine rg_take (i := 12) (v := .bool true) rfl (by kernel_rfl) (by kernel_rfl) (by kernel_rfl) (fun _ _ _ h => h) rfl (by assumption) ?_ ?_
        · intro w hSw; (go_simp; first | done | with_reducible rfl | rfl | omega | assumption | (simp; omega))
        (try simp only [Act.put, aP, aZ, aS])
        refine rg_skip (i := 13) rfl (by kernel_rfl) (by kernel_rfl) (by kernel_rfl) (fun _ _ _ h => h) (by kernel_rfl) (by assumption) ?_
        (try simp only [Act.put, aP, aZ, aS])
        refine rg_skip (i := 14) rfl (by kernel_rfl) (by kernel_rfl) (by kernel_rfl) (fun _ _ _ h => h) (by kernel_rfl) (by assumption) ?_
        (try simp only [Act.put, aP, aZ, aS])
        refine rg_skip (i := 15) rfl (by kernel_rfl) (by kernel_rfl) (by kernel_rfl) (fun _ _ _ h => h) (by kernel_rfl) (by assumption) ?_
        (try simp only [Act.put, aP, aZ, aS])
        refine rg_skip (i := 16) rfl (by kernel_rfl) (by kernel_rfl) (by kernel_rfl) (fun _ _ _ h => h) (by kernel_rfl) (by assumption) ?_
        (try simp only [Act.put, aP, aZ, aS])
        refine rg_skip (i := 17) rfl (by kernel_rfl) (by kernel_rfl) (by kernel_rfl) (fun _ _ _ h => h) (by kernel_rfl) (by assumption) ?_
        (try simp only [Act.put, aP, aZ, aS])
        refine rg_skip (i := 18) rfl (by kernel_rfl) (by kernel_rfl) (by kernel_rfl) (fun _ _ _ h => h) (by kernel_rfl) (by assumption) ?_
        (try simp only [Act.put, aP, aZ, aS])
        refine rg_skip (i := 19) rfl (by kernel_rfl) (by kernel_rfl) (by kernel_rfl) (fun _ _ _ h => h) (by kernel_rfl) (by assumption) ?_
        (try simp only [Act.put, aP, aZ, aS])
        refine rg_skip (i := 20) rfl (by kernel_rfl) (by kernel_rfl) (by kernel_rfl) (fun _ _ _ h => h) (by kernel_rfl) (by assumption) ?_
        (try simp only [Act.put, aP, aZ, aS])
        refine rg_skip (i := 21) rfl (by kernel_rfl) (by kernel_rfl) (by kernel_rfl) (fun _ _ _ h => h) (by kernel_rfl) (by assumption) ?_
        (try simp only [Act.put, aP, aZ, aS])
        refine rg_skip (i := 22) rfl (by kernel_rfl) (by kernel_rfl) (by kernel_rfl) (fun _ _ _ h => h) (by kernel_rfl) (by assumption) ?_
        (try simp only [Act.put, aP, aZ, aS])
        refine rg_skip (i := 23) rfl (by kernel_rfl) (by kernel_rfl) (by kernel_rfl) (fun _ _ _ h => h) (by kernel_rfl) (by assumption) ?_
        (try simp only [Act.put, aP, aZ, aS])
        refine rg_skip (i := 24) rfl (by kernel_rfl) (by kernel_rfl) (by kernel_rfl) (fun _ _ _ h => h) (by kernel_rfl) (by assumption) ?_
        (try simp only [Act.put, aP, aZ, aS])
        refine rg_skip (i := 25) rfl (by kernel_rfl) (by kernel_rfl) (by kernel_rfl) (fun _ _ _ h => h) (by kernel_rfl) (by assumption) ?_
        (try simp only [Act.put, aP, aZ, aS])
        refine rg_skip (i := 26) rfl (by kernel_rfl) (by kernel_rfl) (by kernel_rfl) (fun _ _ _ h => h) (by kernel_rfl) (by assumption) ?_
        (try simp only [Act.put, aP, aZ, aS])
        refine rg_take (i := 27) (v := .bool true) rfl (by kernel_rfl) (by kernel_rfl) (by kernel_rfl) (fun _ _ _ h => h) rfl (by assumption) ?_ ?_
        · intro w hSw; (go_simp; first | done | with_reducible rfl | rfl | omega | assumption | (simp; omega))
        (try simp only [Act.put, aP, aZ, aS])
        refine rg_done (by kernel_rfl) ?_
        refine hK7.out _ _ ?_
        (try clear hK7 K7)
        refine wp_cond_true rfl ?_
        refine wk_seq (fun K8 hK8 => ?_)
        refine wk_reg ?_
        refine pl_take (v := .bool false) rfl ?_ ?_
        · (go_simp; first | done | with_reducible rfl | rfl | omega | assumption | (simp; omega))
        (try simp only [Act.put, aP, aZ, aS])
        refine pl_done ?_
        refine hK8.out _ _ ?_
        (try clear hK8 K8)
        refine wp_ret ?_
        go_ret
        exact ⟨rfl, (by assumption : Sat w0 _ _).pick (by (repeat (first | exact Pick.nil _ | exact Pick.tail _ | exact Out.here _ | apply Out.there | apply Pick.cons | apply Pick.drop)))⟩
      · by_cases hx16 : 16 ≤ x
        · obtain rfl := bad (by omega)
          clear bad good
          refine wk_seq (fun K3 hK3 => ?_)
          refine wk_reg ?_
          refine pl_take (v := .bool true) rfl ?_ ?_
          · (go_simp; first | done | with_reducible rfl | rfl | omega | assumption | (simp; omega))
          (try simp only [Act.put, aP, aZ, aS])
          refine pl_done ?_
          refine hK3.out _ _ ?_
          (try clear hK3 K3)
          refine wk_seq (fun K4 hK4 => ?_)
          refine wp_cond_true rfl ?_
          refine wp_skip ?_
          refine hK4.out _ _ ?_
          (try clear hK4 K4)
          refine wk_seq (fun K5 hK5 => ?_)
          refine wp_block ?_
          refine wk_seq (fun K6 hK6 => ?_)
          refine wk_reg ?_
          iterate 2 (refine pl_take (v := ?_) rfl ?_ ?_; rotate_left; (· (go_simp; first | done | with_reducible rfl | rfl | omega | assumption | (simp; omega))); (try simp only [Act.put, aP, aZ, aS]))
          refine pl_done ?_
          refine hK6.out _ _ ?_
          (try clear hK6 K6)
          refine wk_seq (fun K7 hK7 => ?_)
          refine rg_start rfl (by assumption) (fun wr4 hsr4 => ?_)
          refine rg_take (i := 0) (v := ?_) rfl (by kernel_rfl) (by kernel_rfl) (by kernel_rfl) (fun _ _ _ h => h) rfl (by assumption) ?_ ?_
          rotate_left
          · intro w hSw; (go_simp; first | done | with_reducible rfl | rfl | omega | assumption | (simp; omega))
          (try simp only [Act.put, aP, aZ, aS])
          refine rg_take (i := 1) (v := ?_) rfl (by kernel_rfl) (by kernel_rfl) (by kernel_rfl) (fun _ _ _ h => h) rfl (by assumption) ?_ ?_
          rotate_left
          · intro w hSw; (go_simp; first | done | with_reducible rfl | rfl | omega | assumption | (simp; omega))
          (try simp only [Act.put, aP, aZ, aS])
          refine rg_take (i := 2) (v := ?_) rfl (by kernel_rfl) (by kernel_rfl) (by kernel_rfl) (fun _ _ _ h => h) rfl (by assumption) ?_ ?_
          rotate_left
          · intro w hSw; (go_simp; first | done | with_reducible rfl | rfl | omega | assumption | (simp; omega))
          (try simp only [Act.put, aP, aZ, aS])
          refine rg_take (i := 3) (v := ?_) rfl (by kernel_rfl) (by kernel_rfl) (by kernel_rfl) (fun _ _ _ h => h) rfl (by assumption) ?_ ?_
          rotate_left
          · intro w hSw; ((with_reducible apply yl_load); assumption; rfl; (repeat (first | with_reducible assumption | ((with_reducible apply Cl.own); exact rfl) | ((with_reducible apply Cl.blkL); exact rfl) | with_reducible apply Cl.cons)); rfl)
          (try simp only [Act.put, aP, aZ, aS])
          refine rg_take (i := 4) (v := .bool false) rfl (by kernel_rfl) (by kernel_rfl) (by kernel_rfl) (fun _ _ _ h => h) rfl (by assumption) ?_ ?_
          · intro w hSw; (go_simp; first | done | with_reducible rfl | rfl | omega | assumption | (simp; omega))
          (try simp only [Act.put, aP, aZ, aS])
          refine rg_take (i := 5) (v := .bool false) rfl (by kernel_rfl) (by kernel_rfl) (by kernel_rfl) (fun _ _ _ h => h) rfl (by assumption) ?_ ?_
          · intro w hSw; (go_simp; first | done | with_reducible rfl | rfl | omega | assumption | (simp; omega))
          (try simp only [Act.put, aP, aZ, aS])
          refine rg_take (i := 6) (v := ?_) rfl (by kernel_rfl) (by kernel_rfl) (by kernel_rfl) (fun _ _ _ h => h) (by kernel_rfl) (by assumption) ?_ ?_
          rotate_left
          · intro w hSw; (go_simp; first | done | with_reducible rfl | rfl | omega | assumption | (simp; omega))
          (try simp only [Act.put, aP, aZ, aS])
          refine rg_take (i := 7) (v := ?_) rfl (by kernel_rfl) (by kernel_rfl) (by kernel_rfl) (fun _ _ _ h => h) (by kernel_rfl) (by assumption) ?_ ?_
          rotate_left
          · intro w hSw; (go_simp; first | done | with_reducible rfl | rfl | omega | assumption | (simp; omega))
          (try simp only [Act.put, aP, aZ, aS])
          refine rg_take (i := 8) (v := ?_) rfl (by kernel_rfl) (by kernel_rfl) (by kernel_rfl) (fun _ _ _ h => h) (by kernel_rfl) (by assumption) ?_ ?_
          rotate_left
          · intro w hSw; (go_simp; first | done | with_reducible rfl | rfl | omega | assumption | (simp; omega))
          (try simp only [Act.put, aP, aZ, aS])
          refine rg_take (i := 9) (v := ?_) rfl (by kernel_rfl) (by kernel_rfl) (by kernel_rfl) (fun _ _ _ h => h) (by kernel_rfl) (by assumption) ?_ ?_
          rotate_left
          · intro w hSw; ((with_reducible apply yl_load); assumption; rfl; (repeat (first | with_reducible assumption | ((with_reducible apply Cl.own); exact rfl) | ((with_reducible apply Cl.blkL); exact rfl) | with_reducible apply Cl.cons)); rfl)
          (try simp only [Act.put, aP, aZ, aS])
          refine rg_take (i := 10) (v := .bool true) rfl (by kernel_rfl) (by kernel_rfl) (by kernel_rfl) (fun _ _ _ h => h) (by kernel_rfl) (by assumption) ?_ ?_
          · intro w hSw; (go_simp; first | done | with_reducible rfl | rfl | omega | assumption | (simp; omega))
          (try simp only [Act.put, aP, aZ, aS])
          refine rg_take (i := 11) (v := .bool true) rfl (by kernel_rfl) (by kernel_rfl) (by kernel_rfl) (fun _ _ _ h => h) rfl (by assumption) ?_ ?_
          · intro w hSw; (go_simp; first | done | with_reducible rfl | rfl | omega | assumption | (simp; omega))
          (try simp only [Act.put, aP, aZ, aS])
          refine rg_take (i := 12) (v := .bool true) rfl (by kernel_rfl) (by kernel_rfl) (by kernel_rfl) (fun _ _ _ h => h) rfl (by assumption) ?_ ?_
          · intro w hSw; (go_simp; first | done | with_reducible rfl | rfl | omega | assumption | (simp; omega))
          (try simp only [Act.put, aP, aZ, aS])
          refine rg_skip (i := 13) rfl (by kernel_rfl) (by kernel_rfl) (by kernel_rfl) (fun _ _ _ h => h) (by kernel_rfl) (by assumption) ?_
          (try simp only [Act.put, aP, aZ, aS])
          refine rg_skip (i := 14) rfl (by kernel_rfl) (by kernel_rfl) (by kernel_rfl) (fun _ _ _ h => h) (by kernel_rfl) (by assumption) ?_
          (try simp only [Act.put, aP, aZ, aS])
          refine rg_skip (i := 15) rfl (by kernel_rfl) (by kernel_rfl) (by kernel_rfl) (fun _ _ _ h => h) (by kernel_rfl) (by assumption) ?_
          (try simp only [Act.put, aP, aZ, aS])
          refine rg_skip (i := 16) rfl (by kernel_rfl) (by kernel_rfl) (by kernel_rfl) (fun _ _ _ h => h) (by kernel_rfl) (by assumption) ?_
          (try simp only [Act.put, aP, aZ, aS])
          refine rg_skip (i := 17) rfl (by kernel_rfl) (by kernel_rfl) (by kernel_rfl) (fun _ _ _ h => h) (by kernel_rfl) (by assumption) ?_
          (try simp only [Act.put, aP, aZ, aS])
          refine rg_skip (i := 18) rfl (by kernel_rfl) (by kernel_rfl) (by kernel_rfl) (fun _ _ _ h => h) (by kernel_rfl) (by assumption) ?_
          (try simp only [Act.put, aP, aZ, aS])
          refine rg_skip (i := 19) rfl (by kernel_rfl) (by kernel_rfl) (by kernel_rfl) (fun _ _ _ h => h) (by kernel_rfl) (by assumption) ?_
          (try simp only [Act.put, aP, aZ, aS])
          refine rg_skip (i := 20) rfl (by kernel_rfl) (by kernel_rfl) (by kernel_rfl) (fun _ _ _ h => h) (by kernel_rfl) (by assumption) ?_
          (try simp only [Act.put, aP, aZ, aS])
          refine rg_skip (i := 21) rfl (by kernel_rfl) (by kernel_rfl) (by kernel_rfl) (fun _ _ _ h => h) (by kernel_rfl) (by assumption) ?_
          (try simp only [Act.put, aP, aZ, aS])
          refine rg_skip (i := 22) rfl (by kernel_rfl) (by kernel_rfl) (by kernel_rfl) (fun _ _ _ h => h) (by kernel_rfl) (by assumption) ?_
          (try simp only [Act.put, aP, aZ, aS])
          refine rg_skip (i := 23) rfl (by kernel_rfl) (by kernel_rfl) (by kernel_rfl) (fun _ _ _ h => h) (by kernel_rfl) (by assumption) ?_
          (try simp only [Act.put, aP, aZ, aS])
          refine rg_skip (i := 24) rfl (by kernel_rfl) (by kernel_rfl) (by kernel_rfl) (fun _ _ _ h => h) (by kernel_rfl) (by assumption) ?_
          (try simp only [Act.put, aP, aZ, aS])
          refine rg_skip (i := 25) rfl (by kernel_rfl) (by kernel_rfl) (by kernel_rfl) (fun _ _ _ h => h) (by kernel_rfl) (by assumption) ?_
          (try simp only [Act.put, aP, aZ, aS])
          refine rg_skip (i := 26) rfl (by kernel_rfl) (by kernel_rfl) (by kernel_rfl) (fun _ _ _ h => h) (by kernel_rfl) (by assumption) ?_
          (try simp only [Act.put, aP, aZ, aS])
          refine rg_take (i := 27) (v := .bool true) rfl (by kernel_rfl) (by kernel_rfl) (by kernel_rfl) (fun _ _ _ h => h) rfl (by assumption) ?_ ?_
          · intro w hSw; (go_simp; first | done | with_reducible rfl | rfl | omega | assumption | (simp; omega))
          (try simp only [Act.put, aP, aZ, aS])
          refine rg_done (by kernel_rfl) ?_
          refine hK7.out _ _ ?_
          (try clear hK7 K7)
          refine wp_cond_true rfl ?_
          refine wk_seq (fun K8 hK8 => ?_)
          refine wk_reg ?_
          refine pl_take (v := .bool false) rfl ?_ ?_
          · (go_simp; first | done | with_reducible rfl | rfl | omega | assumption | (simp; omega))
          (try simp only [Act.put, aP, aZ, aS])
          refine pl_done ?_
          refine hK8.out _ _ ?_
          (try clear hK8 K8)
          refine wp_ret ?_
          go_ret
          exact ⟨rfl, (by assumption : Sat w0 _ _).pick (by (repeat (first | exact Pick.nil _ | exact Pick.tail _ | exact Out.here _ | apply Out.there | apply Pick.cons | apply Pick.drop)))⟩
        · by_cases hk0 : k = 0
          · have hq := good (by have := Hk.out.2.1 hk0; omega)
            have hkc : ¬ (0 : Int) < (k : Int) := by omega
            have Hn : Hid (-1 ≤ x ∧ (k + 1 = 0 → x = -1) ∧ (0 < k + 1 → xs[k + 1 - 1]? = some x) ∧ rise (-1) xs = rise x (xs.drop (k + 1))) := ⟨by omega, by omega, fun _ => Hx1.out, hq.out⟩
            clear bad good hk0
            refine wk_seq (fun K3 hK3 => ?_)
            refine wk_reg ?_
            refine pl_take (v := .bool true) rfl ?_ ?_
            · (go_simp; first | done | with_reducible rfl | rfl | omega | assumption | (simp; omega))
            (try simp only [Act.put, aP, aZ, aS])
            refine pl_done ?_
            refine hK3.out _ _ ?_
            (try clear hK3 K3)
            refine wk_seq (fun K4 hK4 => ?_)
            refine wp_cond_true rfl ?_
            refine wp_skip ?_
            refine hK4.out _ _ ?_
            (try clear hK4 K4)
            refine wk_seq (fun K5 hK5 => ?_)
            refine wp_block ?_
            refine wk_seq (fun K6 hK6 => ?_)
            refine wk_reg ?_
            iterate 2 (refine pl_take (v := ?_) rfl ?_ ?_; rotate_left; (· (go_simp; first | done | with_reducible rfl | rfl | omega | assumption | (simp; omega))); (try simp only [Act.put, aP, aZ, aS]))
            refine pl_done ?_
            refine hK6.out _ _ ?_
            (try clear hK6 K6)
            refine wk_seq (fun K7 hK7 => ?_)
            refine rg_start rfl (by assumption) (fun wr4 hsr4 => ?_)
            refine rg_take (i := 0) (v := ?_) rfl (by kernel_rfl) (by kernel_rfl) (by kernel_rfl) (fun _ _ _ h => h) rfl (by assumption) ?_ ?_
            rotate_left
            · intro w hSw; (go_simp; first | done | with_reducible rfl | rfl | omega | assumption | (simp; omega))
            (try simp only [Act.put, aP, aZ, aS])
            refine rg_take (i := 1) (v := ?_) rfl (by kernel_rfl) (by kernel_rfl) (by kernel_rfl) (fun _ _ _ h => h) rfl (by assumption) ?_ ?_
            rotate_left
            · intro w hSw; (go_simp; first | done | with_reducible rfl | rfl | omega | assumption | (simp; omega))
            (try simp only [Act.put, aP, aZ, aS])
            refine rg_take (i := 2) (v := ?_) rfl (by kernel_rfl) (by kernel_rfl) (by kernel_rfl) (fun _ _ _ h => h) rfl (by assumption) ?_ ?_
            rotate_left
            · intro w hSw; (go_simp; first | done | with_reducible rfl | rfl | omega | assumption | (simp; omega))
            (try simp only [Act.put, aP, aZ, aS])
            refine rg_take (i := 3) (v := ?_) rfl (by kernel_rfl) (by kernel_rfl) (by kernel_rfl) (fun _ _ _ h => h) rfl (by assumption) ?_ ?_
            rotate_left
            · intro w hSw; ((with_reducible apply yl_load); assumption; rfl; (repeat (first | with_reducible assumption | ((with_reducible apply Cl.own); exact rfl) | ((with_reducible apply Cl.blkL); exact rfl) | with_reducible apply Cl.cons)); rfl)
            (try simp only [Act.put, aP, aZ, aS])
            refine rg_take (i := 4) (v := .bool false) rfl (by kernel_rfl) (by kernel_rfl) (by kernel_rfl) (fun _ _ _ h => h) rfl (by assumption) ?_ ?_
            · intro w hSw; (go_simp; first | done | with_reducible rfl | rfl | omega | assumption | (simp; omega))
            (try simp only [Act.put, aP, aZ, aS])
            refine rg_take (i := 5) (v := .bool false) rfl (by kernel_rfl) (by kernel_rfl) (by kernel_rfl) (fun _ _ _ h => h) rfl (by assumption) ?_ ?_
            · intro w hSw; (go_simp; first | done | with_reducible rfl | rfl | omega | assumption | (simp; omega))
            (try simp only [Act.put, aP, aZ, aS])
            refine rg_take (i := 6) (v := ?_) rfl (by kernel_rfl) (by kernel_rfl) (by kernel_rfl) (fun _ _ _ h => h) (by kernel_rfl) (by assumption) ?_ ?_
            rotate_left
            · intro w hSw; (go_simp; first | done | with_reducible rfl | rfl | omega | assumption | (simp; omega))
            (try simp only [Act.put, aP, aZ, aS])
            refine rg_take (i := 7) (v := ?_) rfl (by kernel_rfl) (by kernel_rfl) (by kernel_rfl) (fun _ _ _ h => h) (by kernel_rfl) (by assumption) ?_ ?_
            rotate_left
            · intro w hSw; (go_simp; first | done | with_reducible rfl | rfl | omega | assumption | (simp; omega))
            (try simp only [Act.put, aP, aZ, aS])
            refine rg_take (i := 8) (v := ?_) rfl (by kernel_rfl) (by kernel_rfl) (by kernel_rfl) (fun _ _ _ h => h) (by kernel_rfl) (by assumption) ?_ ?_
            rotate_left
            · intro w hSw; (go_simp; first | done | with_reducible rfl | rfl | omega | assumption | (simp; omega))
            (try simp only [Act.put, aP, aZ, aS])
            refine rg_take (i := 9) (v := ?_) rfl (by kernel_rfl) (by kernel_rfl) (by kernel_rfl) (fun _ _ _ h => h) (by kernel_rfl) (by assumption) ?_ ?_
            rotate_left
            · intro w hSw; ((with_reducible apply yl_load); assumption; rfl; (repeat (first | with_reducible assumption | ((with_reducible apply Cl.own); exact rfl) | ((with_reducible apply Cl.blkL); exact rfl) | with_reducible apply Cl.cons)); rfl)
            (try simp only [Act.put, aP, aZ, aS])
            refine rg_take (i := 10) (v := .bool false) rfl (by kernel_rfl) (by kernel_rfl) (by kernel_rfl) (fun _ _ _ h => h) (by kernel_rfl) (by assumption) ?_ ?_
            · intro w hSw; (go_simp; first | done | with_reducible rfl | rfl | omega | assumption | (simp; omega))
            (try simp only [Act.put, aP, aZ, aS])
            refine rg_take (i := 11) (v := .bool false) rfl (by kernel_rfl) (by kernel_rfl) (by kernel_rfl) (fun _ _ _ h => h) rfl (by assumption) ?_ ?_
            · intro w hSw; (go_simp; first | done | with_reducible rfl | rfl | omega | assumption | (simp; omega))
            (try simp only [Act.put, aP, aZ, aS])
            refine rg_take (i := 12) (v := .bool false) rfl (by kernel_rfl) (by kernel_rfl) (by kernel_rfl) (fun _ _ _ h => h) rfl (by assumption) ?_ ?_
            · intro w hSw; (go_simp; first | done | with_reducible rfl | rfl | omega | assumption | (simp; omega))
            (try simp only [Act.put, aP, aZ, aS])
            refine rg_take (i := 13) (v := ?_) rfl (by kernel_rfl) (by kernel_rfl) (by kernel_rfl) (fun _ _ _ h => h) (by kernel_rfl) (by assumption) ?_ ?_
            rotate_left
            · intro w hSw; (go_simp; first | done | with_reducible rfl | rfl | omega | assumption | (simp; omega))
            (try simp only [Act.put, aP, aZ, aS])
            refine rg_take (i := 14) (v := .bool false) rfl (by kernel_rfl) (by kernel_rfl) (by kernel_rfl) (fun _ _ _ h => h) (by kernel_rfl) (by assumption) ?_ ?_
            · intro w hSw; (go_simp; first | done | with_reducible rfl | rfl | omega | assumption | (simp; omega))
            (try simp only [Act.put, aP, aZ, aS])
            refine rg_take (i := 15) (v := .bool false) rfl (by kernel_rfl) (by kernel_rfl) (by kernel_rfl) (fun _ _ _ h => h) (by kernel_rfl) (by assumption) ?_ ?_
            · intro w hSw; (go_simp; first | done | with_reducible rfl | rfl | omega | assumption | (simp; omega))
            (try simp only [Act.put, aP, aZ, aS])
            refine rg_skip (i := 16) rfl (by kernel_rfl) (by kernel_rfl) (by kernel_rfl) (fun _ _ _ h => h) (by kernel_rfl) (by assumption) ?_
            (try simp only [Act.put, aP, aZ, aS])
            refine rg_skip (i := 17) rfl (by kernel_rfl) (by kernel_rfl) (by kernel_rfl) (fun _ _ _ h => h) (by kernel_rfl) (by assumption) ?_
            (try simp only [Act.put, aP, aZ, aS])
            refine rg_skip (i := 18) rfl (by kernel_rfl) (by kernel_rfl) (by kernel_rfl) (fun _ _ _ h => h) (by kernel_rfl) (by assumption) ?_
            (try simp only [Act.put, aP, aZ, aS])
            refine rg_skip (i := 19) rfl (by kernel_rfl) (by kernel_rfl) (by kernel_rfl) (fun _ _ _ h => h) (by kernel_rfl) (by assumption) ?_
            (try simp only [Act.put, aP, aZ, aS])
            refine rg_skip (i := 20) rfl (by kernel_rfl) (by kernel_rfl) (by kernel_rfl) (fun _ _ _ h => h) (by kernel_rfl) (by assumption) ?_
            (try simp only [Act.put, aP, aZ, aS])
            refine rg_skip (i := 21) rfl (by kernel_rfl) (by kernel_rfl) (by kernel_rfl) (fun _ _ _ h => h) (by kernel_rfl) (by assumption) ?_
            (try simp only [Act.put, aP, aZ, aS])
            refine rg_skip (i := 22) rfl (by kernel_rfl) (by kernel_rfl) (by kernel_rfl) (fun _ _ _ h => h) (by kernel_rfl) (by assumption) ?_
            (try simp only [Act.put, aP, aZ, aS])
            refine rg_skip (i := 23) rfl (by kernel_rfl) (by kernel_rfl) (by kernel_rfl) (fun _ _ _ h => h) (by kernel_rfl) (by assumption) ?_
            (try simp only [Act.put, aP, aZ, aS])
            refine rg_skip (i := 24) rfl (by kernel_rfl) (by kernel_rfl) (by kernel_rfl) (fun _ _ _ h => h) (by kernel_rfl) (by assumption) ?_
            (try simp only [Act.put, aP, aZ, aS])
            refine rg_skip (i := 25) rfl (by kernel_rfl) (by kernel_rfl) (by kernel_rfl) (fun _ _ _ h => h) (by kernel_rfl) (by assumption) ?_
            (try simp only [Act.put, aP, aZ, aS])
            refine rg_take (i := 26) (v := .bool false) rfl (by kernel_rfl) (by kernel_rfl) (by kernel_rfl) (fun _ _ _ h => h) (by kernel_rfl) (by assumption) ?_ ?_
            · intro w hSw; (go_simp; first | done | with_reducible rfl | rfl | omega | assumption | (simp; omega))
            (try simp only [Act.put, aP, aZ, aS])
            refine rg_take (i := 27) (v := .bool false) rfl (by kernel_rfl) (by kernel_rfl) (by kernel_rfl) (fun _ _ _ h => h) rfl (by assumption) ?_ ?_
            · intro w hSw; (go_simp; first | done | with_reducible rfl | rfl | omega | assumption | (simp; omega))
            (try simp only [Act.put, aP, aZ, aS])
            refine rg_done (by kernel_rfl) ?_
            refine hK7.out _ _ ?_
            (try clear hK7 K7)
            refine wp_cond_false rfl ?_
            refine wp_skip ?_
            refine hK5.out _ _ ?_
            (try clear hK5 K5)
            refine wk_reg ?_
            iterate 2 (refine pl_take (v := ?_) rfl ?_ ?_; rotate_left; (· (go_simp; first | done | with_reducible rfl | rfl | omega | assumption | (simp; omega))); (try simp only [Act.put, aP, aZ, aS]))
            refine pl_done ?_
            (try dsimp only [Exit.inBlock, Exit.then])
            go_roundw
            case rel => exact ⟨k + 1, x, by go_num, by omega, Hn, (by assumption : Sat w0 _ _).pick (by (repeat (first | exact Pick.nil _ | exact Pick.tail _ | exact Out.here _ | apply Out.there | apply Pick.cons | apply Pick.drop)))⟩
            case measure => simp [intOf]; omega
          · have hkc : (0 : Int) < (k : Int) := by omega
            have hl := Hk.out.2.2.1 (by omega)
            have cb := hA.elt (I8_at xs (k - 1) last hl)
            have hwj : IntKind.i64.wrap ((k : Int) - 1) = ((k - 1 : Nat) : Int) := by rw [IntWalk.i64_in _ (by omega)]; omega
            have j0 : (0 : Int) ≤ ((k - 1 : Nat) : Int) := by omega
            have j1 : ((k - 1 : Nat) : Int) < (n : Int) := by omega
            clear hl hk0
            by_cases hxl : x ≤ last
            · obtain rfl := bad (by omega)
              clear bad good
              refine wk_seq (fun K3 hK3 => ?_)
              refine wk_reg ?_
              refine pl_take (v := .bool true) rfl ?_ ?_
              · (go_simp; first | done | with_reducible rfl | rfl | omega | assumption | (simp; omega))
              (try simp only [Act.put, aP, aZ, aS])
              refine pl_done ?_
              refine hK3.out _ _ ?_
              (try clear hK3 K3)
              refine wk_seq (fun K4 hK4 => ?_)
              refine wp_cond_true rfl ?_
              refine wp_skip ?_
              refine hK4.out _ _ ?_
              (try clear hK4 K4)
              refine wk_seq (fun K5 hK5 => ?_)
              refine wp_block ?_
              refine wk_seq (fun K6 hK6 => ?_)
              refine wk_reg ?_
              iterate 2 (refine pl_take (v := ?_) rfl ?_ ?_; rotate_left; (· (go_simp; first | done | with_reducible rfl | rfl | omega | assumption | (simp; omega))); (try simp only [Act.put, aP, aZ, aS]))
              refine pl_done ?_
              refine hK6.out _ _ ?_
              (try clear hK6 K6)
              refine wk_seq (fun K7 hK7 => ?_)
              refine rg_start rfl (by assumption) (fun wr4 hsr4 => ?_)
              refine rg_take (i := 0) (v := ?_) rfl (by kernel_rfl) (by kernel_rfl) (by kernel_rfl) (fun _ _ _ h => h) rfl (by assumption) ?_ ?_
              rotate_left
              · intro w hSw; (go_simp; first | done | with_reducible rfl | rfl | omega | assumption | (simp; omega))
              (try simp only [Act.put, aP, aZ, aS])
              refine rg_take (i := 1) (v := ?_) rfl (by kernel_rfl) (by kernel_rfl) (by kernel_rfl) (fun _ _ _ h => h) rfl (by assumption) ?_ ?_
              rotate_left
              · intro w hSw; (go_simp; first | done | with_reducible rfl | rfl | omega | assumption | (simp; omega))
              (try simp only [Act.put, aP, aZ, aS])
              refine rg_take (i := 2) (v := ?_) rfl (by kernel_rfl) (by kernel_rfl) (by kernel_rfl) (fun _ _ _ h => h) rfl (by assumption) ?_ ?_
              rotate_left
              · intro w hSw; (go_simp; first | done | with_reducible rfl | rfl | omega | assumption | (simp; omega))
              (try simp only [Act.put, aP, aZ, aS])
              refine rg_take (i := 3) (v := ?_) rfl (by kernel_rfl) (by kernel_rfl) (by kernel_rfl) (fun _ _ _ h => h) rfl (by assumption) ?_ ?_
              rotate_left
              · intro w hSw; ((with_reducible apply yl_load); assumption; rfl; (repeat (first | with_reducible assumption | ((with_reducible apply Cl.own); exact rfl) | ((with_reducible apply Cl.blkL); exact rfl) | with_reducible apply Cl.cons)); rfl)
              (try simp only [Act.put, aP, aZ, aS])
              refine rg_take (i := 4) (v := .bool false) rfl (by kernel_rfl) (by kernel_rfl) (by kernel_rfl) (fun _ _ _ h => h) rfl (by assumption) ?_ ?_
              · intro w hSw; (go_simp; first | done | with_reducible rfl | rfl | omega | assumption | (simp; omega))
              (try simp only [Act.put, aP, aZ, aS])
              refine rg_take (i := 5) (v := .bool false) rfl (by kernel_rfl) (by kernel_rfl) (by kernel_rfl) (fun _ _ _ h => h) rfl (by assumption) ?_ ?_
              · intro w hSw; (go_simp; first | done | with_reducible rfl | rfl | omega | assumption | (simp; omega))
              (try simp only [Act.put, aP, aZ, aS])
              refine rg_take (i := 6) (v := ?_) rfl (by kernel_rfl) (by kernel_rfl) (by kernel_rfl) (fun _ _ _ h => h) (by kernel_rfl) (by assumption) ?_ ?_
              rotate_left
              · intro w hSw; (go_simp; first | done | with_reducible rfl | rfl | omega | assumption | (simp; omega))
              (try simp only [Act.put, aP, aZ, aS])
              refine rg_take (i := 7) (v := ?_) rfl (by kernel_rfl) (by kernel_rfl) (by kernel_rfl) (fun _ _ _ h => h) (by kernel_rfl) (by assumption) ?_ ?_
              rotate_left
              · intro w hSw; (go_simp; first | done | with_reducible rfl | rfl | omega | assumption | (simp; omega))
              (try simp only [Act.put, aP, aZ, aS])
              refine rg_take (i := 8) (v := ?_) rfl (by kernel_rfl) (by kernel_rfl) (by kernel_rfl) (fun _ _ _ h => h) (by kernel_rfl) (by assumption) ?_ ?_
              rotate_left
              · intro w hSw; (go_simp; first | done | with_reducible rfl | rfl | omega | assumption | (simp; omega))
              (try simp only [Act.put, aP, aZ, aS])
              refine rg_take (i := 9) (v := ?_) rfl (by kernel_rfl) (by kernel_rfl) (by kernel_rfl) (fun _ _ _ h => h) (by kernel_rfl) (by assumption) ?_ ?_
              rotate_left
              · intro w hSw; ((with_reducible apply yl_load); assumption; rfl; (repeat (first | with_reducible assumption | ((with_reducible apply Cl.own); exact rfl) | ((with_reducible apply Cl.blkL); exact rfl) | with_reducible apply Cl.cons)); rfl)
              (try simp only [Act.put, aP, aZ, aS])
              refine rg_take (i := 10) (v := .bool false) rfl (by kernel_rfl) (by kernel_rfl) (by kernel_rfl) (fun _ _ _ h => h) (by kernel_rfl) (by assumption) ?_ ?_
              · intro w hSw; (go_simp; first | done | with_reducible rfl | rfl | omega | assumption | (simp; omega))
              (try simp only [Act.put, aP, aZ, aS])
              refine rg_take (i := 11) (v := .bool false) rfl (by kernel_rfl) (by kernel_rfl) (by kernel_rfl) (fun _ _ _ h => h) rfl (by assumption) ?_ ?_
              · intro w hSw; (go_simp; first | done | with_reducible rfl | rfl | omega | assumption | (simp; omega))
              (try simp only [Act.put, aP, aZ, aS])
              refine rg_take (i := 12) (v := .bool false) rfl (by kernel_rfl) (by kernel_rfl) (by kernel_rfl) (fun _ _ _ h => h) rfl (by assumption) ?_ ?_
              · intro w hSw; (go_simp; first | done | with_reducible rfl | rfl | omega | assumption | (simp; omega))
              (try simp only [Act.put, aP, aZ, aS])
              refine rg_take (i := 13) (v := ?_) rfl (by kernel_rfl) (by kernel_rfl) (by kernel_rfl) (fun _ _ _ h => h) (by kernel_rfl) (by assumption) ?_ ?_
              rotate_left
              · intro w hSw; (go_simp; first | done | with_reducible rfl | rfl | omega | assumption | (simp; omega))
              (try simp only [Act.put, aP, aZ, aS])
              refine rg_take (i := 14) (v := .bool true) rfl (by kernel_rfl) (by kernel_rfl) (by kernel_rfl) (fun _ _ _ h => h) (by kernel_rfl) (by assumption) ?_ ?_
              · intro w hSw; (go_simp; first | done | with_reducible rfl | rfl | omega | assumption | (simp; omega))
              (try simp only [Act.put, aP, aZ, aS])
              refine rg_take (i := 15) (v := .bool true) rfl (by kernel_rfl) (by kernel_rfl) (by kernel_rfl) (fun _ _ _ h => h) (by kernel_rfl) (by assumption) ?_ ?_
              · intro w hSw; (go_simp; first | done | with_reducible rfl | rfl | omega | assumption | (simp; omega))
              (try simp only [Act.put, aP, aZ, aS])
              refine rg_take (i := 16) (v := ?_) rfl (by kernel_rfl) (by kernel_rfl) (by kernel_rfl) (fun _ _ _ h => h) (by kernel_rfl) (by assumption) ?_ ?_
              rotate_left
              · intro w hSw; (go_simp; first | done | with_reducible rfl | rfl | omega | assumption | (simp; omega))
              (try simp only [Act.put, aP, aZ, aS])
              refine rg_take (i := 17) (v := ?_) rfl (by kernel_rfl) (by kernel_rfl) (by kernel_rfl) (fun _ _ _ h => h) (by kernel_rfl) (by assumption) ?_ ?_
              rotate_left
              · intro w hSw; (go_simp; first | done | with_reducible rfl | rfl | omega | assumption | (simp; omega))
              (try simp only [Act.put, aP, aZ, aS])
              refine rg_take (i := 18) (v := ?_) rfl (by kernel_rfl) (by kernel_rfl) (by kernel_rfl) (fun _ _ _ h => h) (by kernel_rfl) (by assumption) ?_ ?_
              rotate_left
              · intro w hSw; (go_simp; first | done | with_reducible rfl | rfl | omega | assumption | (simp; omega))
              (try simp only [Act.put, aP, aZ, aS])
              refine rg_take (i := 19) (v := ?_) rfl (by kernel_rfl) (by kernel_rfl) (by kernel_rfl) (fun _ _ _ h => h) (by kernel_rfl) (by assumption) ?_ ?_
              rotate_left
              · intro w hSw; ((with_reducible apply yl_load); assumption; rfl; (repeat (first | with_reducible assumption | ((with_reducible apply Cl.own); exact rfl) | ((with_reducible apply Cl.blkL); exact rfl) | with_reducible apply Cl.cons)); rfl)
              (try simp only [Act.put, aP, aZ, aS])
              refine rg_take (i := 20) (v := ?_) rfl (by kernel_rfl) (by kernel_rfl) (by kernel_rfl) (fun _ _ _ h => h) (by kernel_rfl) (by assumption) ?_ ?_
              rotate_left
              · intro w hSw; (go_simp; first | done | with_reducible rfl | rfl | omega | assumption | (simp; omega))
              (try simp only [Act.put, aP, aZ, aS])
              refine rg_take (i := 21) (v := ?_) rfl (by kernel_rfl) (by kernel_rfl) (by kernel_rfl) (fun _ _ _ h => h) (by kernel_rfl) (by assumption) ?_ ?_
              rotate_left
              · intro w hSw; (go_simp; first | done | with_reducible rfl | rfl | omega | assumption | (simp; omega))
              (try simp only [Act.put, aP, aZ, aS])
              refine rg_take (i := 22) (v := ?_) rfl (by kernel_rfl) (by kernel_rfl) (by kernel_rfl) (fun _ _ _ h => h) (by kernel_rfl) (by assumption) ?_ ?_
              rotate_left
              · intro w hSw; (go_simp; first | done | with_reducible rfl | rfl | omega | assumption | (simp; omega))
              (try simp only [Act.put, aP, aZ, aS])
              refine rg_take (i := 23) (v := ?_) rfl (by kernel_rfl) (by kernel_rfl) (by kernel_rfl) (fun _ _ _ h => h) (by kernel_rfl) (by assumption) ?_ ?_
              rotate_left
              · intro w hSw; (go_simp; first | done | with_reducible rfl | rfl | omega | assumption | (simp; omega))
              (try simp only [Act.put, aP, aZ, aS])
              refine rg_take (i := 24) (v := ?_) rfl (by kernel_rfl) (by kernel_rfl) (by kernel_rfl) (fun _ _ _ h => h) (by kernel_rfl) (by assumption) ?_ ?_
              rotate_left
              · intro w hSw; ((with_reducible apply yl_load); assumption; rfl; (repeat (first | with_reducible assumption | ((with_reducible apply Cl.own); exact rfl) | ((with_reducible apply Cl.blkL); exact rfl) | with_reducible apply Cl.cons)); rfl)
              (try simp only [Act.put, aP, aZ, aS])
              refine rg_take (i := 25) (v := .bool true) rfl (by kernel_rfl) (by kernel_rfl) (by kernel_rfl) (fun _ _ _ h => h) (by kernel_rfl) (by assumption) ?_ ?_
              · intro w hSw; (go_simp; first | done | with_reducible rfl | rfl | omega | assumption | (simp; omega))
              (try simp only [Act.put, aP, aZ, aS])
              refine rg_take (i := 26) (v := .bool true) rfl (by kernel_rfl) (by kernel_rfl) (by kernel_rfl) (fun _ _ _ h => h) (by kernel_rfl) (by assumption) ?_ ?_
              · intro w hSw; (go_simp; first | done | with_reducible rfl | rfl | omega | assumption | (simp; omega))
              (try simp only [Act.put, aP, aZ, aS])
              refine rg_take (i := 27) (v := .bool true) rfl (by kernel_rfl) (by kernel_rfl) (by kernel_rfl) (fun _ _ _ h => h) rfl (by assumption) ?_ ?_
              · intro w hSw; (go_simp; first | done | with_reducible rfl | rfl | omega | assumption | (simp; omega))
              (try simp only [Act.put, aP, aZ, aS])
              refine rg_done (by kernel_rfl) ?_
              refine hK7.out _ _ ?_
              (try clear hK7 K7)
              refine wp_cond_true rfl ?_
              refine wk_seq (fun K8 hK8 => ?_)
              refine wk_reg ?_
              refine pl_take (v := .bool false) rfl ?_ ?_
              · (go_simp; first | done | with_reducible rfl | rfl | omega | assumption | (simp; omega))
              (try simp only [Act.put, aP, aZ, aS])
              refine pl_done ?_
              refine hK8.out _ _ ?_
              (try clear hK8 K8)
              refine wp_ret ?_
              go_ret
              exact ⟨rfl, (by assumption : Sat w0 _ _).pick (by (repeat (first | exact Pick.nil _ | exact Pick.tail _ | exact Out.here _ | apply Out.there | apply Pick.cons | apply Pick.drop)))⟩
            · have hq := good (by omega)
              have Hn : Hid (-1 ≤ x ∧ (k + 1 = 0 → x = -1) ∧ (0 < k + 1 → xs[k + 1 - 1]? = some x) ∧ rise (-1) xs = rise x (xs.drop (k + 1))) := ⟨by omega, by omega, fun _ => Hx1.out, hq.out⟩
              clear bad good
              refine wk_seq (fun K3 hK3 => ?_)
              refine wk_reg ?_
              refine pl_take (v := .bool true) rfl ?_ ?_
              · (go_simp; first | done | with_reducible rfl | rfl | omega | assumption | (simp; omega))
              (try simp only [Act.put, aP, aZ, aS])
              refine pl_done ?_
              refine hK3.out _ _ ?_
              (try clear hK3 K3)
              refine wk_seq (fun K4 hK4 => ?_)
              refine wp_cond_true rfl ?_
              refine wp_skip ?_
              refine hK4.out _ _ ?_
              (try clear hK4 K4)
              refine wk_seq (fun K5 hK5 => ?_)
              refine wp_block ?_
              refine wk_seq (fun K6 hK6 => ?_)
              refine wk_reg ?_
              iterate 2 (refine pl_take (v := ?_) rfl ?_ ?_; rotate_left; (· (go_simp; first | done | with_reducible rfl | rfl | omega | assumption | (simp; omega))); (try simp only [Act.put, aP, aZ, aS]))
              refine pl_done ?_
              refine hK6.out _ _ ?_
              (try clear hK6 K6)
              refine wk_seq (fun K7 hK7 => ?_)
              refine rg_start rfl (by assumption) (fun wr4 hsr4 => ?_)
              refine rg_take (i := 0) (v := ?_) rfl (by kernel_rfl) (by kernel_rfl) (by kernel_rfl) (fun _ _ _ h => h) rfl (by assumption) ?_ ?_
              rotate_left
              · intro w hSw; (go_simp; first | done | with_reducible rfl | rfl | omega | assumption | (simp; omega))
              (try simp only [Act.put, aP, aZ, aS])
              refine rg_take (i := 1) (v := ?_) rfl (by kernel_rfl) (by kernel_rfl) (by kernel_rfl) (fun _ _ _ h => h) rfl (by assumption) ?_ ?_
              rotate_left
              · intro w hSw; (go_simp; first | done | with_reducible rfl | rfl | omega | assumption | (simp; omega))
              (try simp only [Act.put, aP, aZ, aS])
              refine rg_take (i := 2) (v := ?_) rfl (by kernel_rfl) (by kernel_rfl) (by kernel_rfl) (fun _ _ _ h => h) rfl (by assumption) ?_ ?_
              rotate_left
              · intro w hSw; (go_simp; first | done | with_reducible rfl | rfl | omega | assumption | (simp; omega))
              (try simp only [Act.put, aP, aZ, aS])
              refine rg_take (i := 3) (v := ?_) rfl (by kernel_rfl) (by kernel_rfl) (by kernel_rfl) (fun _ _ _ h => h) rfl (by assumption) ?_ ?_
              rotate_left
              · intro w hSw; ((with_reducible apply yl_load); assumption; rfl; (repeat (first | with_reducible assumption | ((with_reducible apply Cl.own); exact rfl) | ((with_reducible apply Cl.blkL); exact rfl) | with_reducible apply Cl.cons)); rfl)
              (try simp only [Act.put, aP, aZ, aS])
              refine rg_take (i := 4) (v := .bool false) rfl (by kernel_rfl) (by kernel_rfl) (by kernel_rfl) (fun _ _ _ h => h) rfl (by assumption) ?_ ?_
              · intro w hSw; (go_simp; first | done | with_reducible rfl | rfl | omega | assumption | (simp; omega))
              (try simp only [Act.put, aP, aZ, aS])
              refine rg_take (i := 5) (v := .bool false) rfl (by kernel_rfl) (by kernel_rfl) (by kernel_rfl) (fun _ _ _ h => h) rfl (by assumption) ?_ ?_
              · intro w hSw; (go_simp; first | done | with_reducible rfl | rfl | omega | assumption | (simp; omega))
              (try simp only [Act.put, aP, aZ, aS])
              refine rg_take (i := 6) (v := ?_) rfl (by kernel_rfl) (by kernel_rfl) (by kernel_rfl) (fun _ _ _ h => h) (by kernel_rfl) (by assumption) ?_ ?_
              rotate_left
              · intro w hSw; (go_simp; first | done | with_reducible rfl | rfl | omega | assumption | (simp; omega))
              (try simp only [Act.put, aP, aZ, aS])
              refine rg_take (i := 7) (v := ?_) rfl (by kernel_rfl) (by kernel_rfl) (by kernel_rfl) (fun _ _ _ h => h) (by kernel_rfl) (by assumption) ?_ ?_
              rotate_left
              · intro w hSw; (go_simp; first | done | with_reducible rfl | rfl | omega | assumption | (simp; omega))
              (try simp only [Act.put, aP, aZ, aS])
              refine rg_take (i := 8) (v := ?_) rfl (by kernel_rfl) (by kernel_rfl) (by kernel_rfl) (fun _ _ _ h => h) (by kernel_rfl) (by assumption) ?_ ?_
              rotate_left
              · intro w hSw; (go_simp; first | done | with_reducible rfl | rfl | omega | assumption | (simp; omega))
              (try simp only [Act.put, aP, aZ, aS])
              refine rg_take (i := 9) (v := ?_) rfl (by kernel_rfl) (by kernel_rfl) (by kernel_rfl) (fun _ _ _ h => h) (by kernel_rfl) (by assumption) ?_ ?_
              rotate_left
              · intro w hSw; ((with_reducible apply yl_load); assumption; rfl; (repeat (first | with_reducible assumption | ((with_reducible apply Cl.own); exact rfl) | ((with_reducible apply Cl.blkL); exact rfl) | with_reducible apply Cl.cons)); rfl)
              (try simp only [Act.put, aP, aZ, aS])
              refine rg_take (i := 10) (v := .bool false) rfl (by kernel_rfl) (by kernel_rfl) (by kernel_rfl) (fun _ _ _ h => h) (by kernel_rfl) (by assumption) ?_ ?_
              · intro w hSw; (go_simp; first | done | with_reducible rfl | rfl | omega | assumption | (simp; omega))
              (try simp only [Act.put, aP, aZ, aS])
              refine rg_take (i := 11) (v := .bool false) rfl (by kernel_rfl) (by kernel_rfl) (by kernel_rfl) (fun _ _ _ h => h) rfl (by assumption) ?_ ?_
              · intro w hSw; (go_simp; first | done | with_reducible rfl | rfl | omega | assumption | (simp; omega))
              (try simp only [Act.put, aP, aZ, aS])
              refine rg_take (i := 12) (v := .bool false) rfl (by kernel_rfl) (by kernel_rfl) (by kernel_rfl) (fun _ _ _ h => h) rfl (by assumption) ?_ ?_
              · intro w hSw; (go_simp; first | done | with_reducible rfl | rfl | omega | assumption | (simp; omega))
              (try simp only [Act.put, aP, aZ, aS])
              refine rg_take (i := 13) (v := ?_) rfl (by kernel_rfl) (by kernel_rfl) (by kernel_rfl) (fun _ _ _ h => h) (by kernel_rfl) (by assumption) ?_ ?_
              rotate_left
              · intro w hSw; (go_simp; first | done | with_reducible rfl | rfl | omega | assumption | (simp; omega))
              (try simp only [Act.put, aP, aZ, aS])
              refine rg_take (i := 14) (v := .bool true) rfl (by kernel_rfl) (by kernel_rfl) (by kernel_rfl) (fun _ _ _ h => h) (by kernel_rfl) (by assumption) ?_ ?_
              · intro w hSw; (go_simp; first | done | with_reducible rfl | rfl | omega | assumption | (simp; omega))
              (try simp only [Act.put, aP, aZ, aS])
              refine rg_take (i := 15) (v := .bool true) rfl (by kernel_rfl) (by kernel_rfl) (by kernel_rfl) (fun _ _ _ h => h) (by kernel_rfl) (by assumption) ?_ ?_
              · intro w hSw; (go_simp; first | done | with_reducible rfl | rfl | omega | assumption | (simp; omega))
              (try simp only [Act.put, aP, aZ, aS])
              refine rg_take (i := 16) (v := ?_) rfl (by kernel_rfl) (by kernel_rfl) (by kernel_rfl) (fun _ _ _ h => h) (by kernel_rfl) (by assumption) ?_ ?_
              rotate_left
              · intro w hSw; (go_simp; first | done | with_reducible rfl | rfl | omega | assumption | (simp; omega))
              (try simp only [Act.put, aP, aZ, aS])
              refine rg_take (i := 17) (v := ?_) rfl (by kernel_rfl) (by kernel_rfl) (by kernel_rfl) (fun _ _ _ h => h) (by kernel_rfl) (by assumption) ?_ ?_
              rotate_left
              · intro w hSw; (go_simp; first | done | with_reducible rfl | rfl | omega | assumption | (simp; omega))
              (try simp only [Act.put, aP, aZ, aS])
              refine rg_take (i := 18) (v := ?_) rfl (by kernel_rfl) (by kernel_rfl) (by kernel_rfl) (fun _ _ _ h => h) (by kernel_rfl) (by assumption) ?_ ?_
              rotate_left
              · intro w hSw; (go_simp; first | done | with_reducible rfl | rfl | omega | assumption | (simp; omega))
              (try simp only [Act.put, aP, aZ, aS])
              refine rg_take (i := 19) (v := ?_) rfl (by kernel_rfl) (by kernel_rfl) (by kernel_rfl) (fun _ _ _ h => h) (by kernel_rfl) (by assumption) ?_ ?_
              rotate_left
              · intro w hSw; ((with_reducible apply yl_load); assumption; rfl; (repeat (first | with_reducible assumption | ((with_reducible apply Cl.own); exact rfl) | ((with_reducible apply Cl.blkL); exact rfl) | with_reducible apply Cl.cons)); rfl)
              (try simp only [Act.put, aP, aZ, aS])
              refine rg_take (i := 20) (v := ?_) rfl (by kernel_rfl) (by kernel_rfl) (by kernel_rfl) (fun _ _ _ h => h) (by kernel_rfl) (by assumption) ?_ ?_
              rotate_left
              · intro w hSw; (go_simp; first | done | with_reducible rfl | rfl | omega | assumption | (simp; omega))
              (try simp only [Act.put, aP, aZ, aS])
              refine rg_take (i := 21) (v := ?_) rfl (by kernel_rfl) (by kernel_rfl) (by kernel_rfl) (fun _ _ _ h => h) (by kernel_rfl) (by assumption) ?_ ?_
              rotate_left
              · intro w hSw; (go_simp; first | done | with_reducible rfl | rfl | omega | assumption | (simp; omega))
              (try simp only [Act.put, aP, aZ, aS])
              refine rg_take (i := 22) (v := ?_) rfl (by kernel_rfl) (by kernel_rfl) (by kernel_rfl) (fun _ _ _ h => h) (by kernel_rfl) (by assumption) ?_ ?_
              rotate_left
              · intro w hSw; (go_simp; first | done | with_reducible rfl | rfl | omega | assumption | (simp; omega))
              (try simp only [Act.put, aP, aZ, aS])
              refine rg_take (i := 23) (v := ?_) rfl (by kernel_rfl) (by kernel_rfl) (by kernel_rfl) (fun _ _ _ h => h) (by kernel_rfl) (by assumption) ?_ ?_
              rotate_left
              · intro w hSw; (go_simp; first | done | with_reducible rfl | rfl | omega | assumption | (simp; omega))
              (try simp only [Act.put, aP, aZ, aS])
              refine rg_take (i := 24) (v := ?_) rfl (by kernel_rfl) (by kernel_rfl) (by kernel_rfl) (fun _ _ _ h => h) (by kernel_rfl) (by assumption) ?_ ?_
              rotate_left
              · intro w hSw; ((with_reducible apply yl_load); assumption; rfl; (repeat (first | with_reducible assumption | ((with_reducible apply Cl.own); exact rfl) | ((with_reducible apply Cl.blkL); exact rfl) | with_reducible apply Cl.cons)); rfl)
              (try simp only [Act.put, aP, aZ, aS])
              refine rg_take (i := 25) (v := .bool false) rfl (by kernel_rfl) (by kernel_rfl) (by kernel_rfl) (fun _ _ _ h => h) (by kernel_rfl) (by assumption) ?_ ?_
              · intro w hSw; (go_simp; first | done | with_reducible rfl | rfl | omega | assumption | (simp; omega))
              (try simp only [Act.put, aP, aZ, aS])
              refine rg_take (i := 26) (v := .bool false) rfl (by kernel_rfl) (by kernel_rfl) (by kernel_rfl) (fun _ _ _ h => h) (by kernel_rfl) (by assumption) ?_ ?_
              · intro w hSw; (go_simp; first | done | with_reducible rfl | rfl | omega | assumption | (simp; omega))
              (try simp only [Act.put, aP, aZ, aS])
              refine rg_take (i := 27) (v := .bool false) rfl (by kernel_rfl) (by kernel_rfl) (by kernel_rfl) (fun _ _ _ h => h) rfl (by assumption) ?_ ?_
              · intro w hSw; (go_simp; first | done | with_reducible rfl | rfl | omega | assumption | (simp; omega))
              (try simp only [Act.put, aP, aZ, aS])
              refine rg_done (by kernel_rfl) ?_
              refine hK7.out _ _ ?_
              (try clear hK7 K7)
              refine wp_cond_false rfl ?_
              refine wp_skip ?_
              refine hK5.out _ _ ?_
              (try clear hK5 K5)
              refine wk_reg ?_
              iterate 2 (refine pl_take (v := ?_) rfl ?_ ?_; rotate_left; (· (go_simp; first | done | with_reducible rfl | rfl | omega | assumption | (simp; omega))); (try simp only [Act.put, aP, aZ, aS]))
              refine pl_done ?_
              (try dsimp only [Exit.inBlock, Exit.then])
              go_roundw
              case rel => exact ⟨k + 1, x, by go_num, by omega, Hn, (by assumption : Sat w0 _ _).pick (by (repeat (first | exact Pick.nil _ | exact Pick.tail _ | exact Out.here _ | apply Out.there | apply Pick.cons | apply Pick.drop)))⟩
              case measure => simp [intOf]; omega
    · obtain rfl : k = n := by omega
      have hR : R = decide (1 ≤ k ∧ k ≤ 7) := by
        rw [HO.out, Hk.out.2.2.2, List.drop_eq_nil_of_le (by have := hx.out; omega)]; simp [rise]
      by_cases h1 : 1 ≤ k
      · by_cases h7 : k ≤ 7
        · obtain rfl : R = true := by rw [hR]; simp [h1, h7]
          clear hR
          refine wk_seq (fun K3 hK3 => ?_)
          refine wk_reg ?_
          refine pl_take (v := .bool false) rfl ?_ ?_
          · (go_simp; first | done | with_reducible rfl | rfl | omega | assumption | (simp; omega))
          (try simp only [Act.put, aP, aZ, aS])
          refine pl_done ?_
          refine hK3.out _ _ ?_
          (try clear hK3 K3)
          refine wk_seq (fun K4 hK4 => ?_)
          refine wp_cond_false rfl ?_
          refine wp_exit ?_
          refine hK1.out _ _ ?_
          (try clear hK1 K1)
          refine wk_seq (fun K9 hK9 => ?_)
          refine wk_reg ?_
          iterate 2 (refine pl_take (v := ?_) rfl ?_ ?_; rotate_left; (· (go_simp; first | done | with_reducible rfl | rfl | omega | assumption | (simp; omega))); (try simp only [Act.put, aP, aZ, aS]))
          iterate 2 (refine pl_take (v := .bool true) rfl ?_ ?_; (· (go_simp; first | done | with_reducible rfl | rfl | omega | assumption | (simp; omega))); (try simp only [Act.put, aP, aZ, aS]))
          iterate 2 (refine pl_take (v := ?_) (by kernel_rfl) ?_ ?_; rotate_left; (· (go_simp; first | done | with_reducible rfl | rfl | omega | assumption | (simp; omega))); (try simp only [Act.put, aP, aZ, aS]))
          refine pl_take (v := .bool true) (by kernel_rfl) ?_ ?_
          · (go_simp; first | done | with_reducible rfl | rfl | omega | assumption | (simp; omega))
          (try simp only [Act.put, aP, aZ, aS])
          iterate 2 (refine pl_take (v := .bool true) rfl ?_ ?_; (· (go_simp; first | done | with_reducible rfl | rfl | omega | assumption | (simp; omega))); (try simp only [Act.put, aP, aZ, aS]))
          refine pl_done ?_
          refine hK9.out _ _ ?_
          (try clear hK9 K9)
          refine wp_ret ?_
          go_ret
          exact ⟨rfl, (by assumption : Sat w0 _ _).pick (by (repeat (first | exact Pick.nil _ | exact Pick.tail _ | exact Out.here _ | apply Out.there | apply Pick.cons | apply Pick.drop)))⟩
        · obtain rfl : R = false := by rw [hR]; simp [h7]
          clear hR
          refine wk_seq (fun K3 hK3 => ?_)
          refine wk_reg ?_
          refine pl_take (v := .bool false) rfl ?_ ?_
          · (go_simp; first | done | with_reducible rfl | rfl | omega | assumption | (simp; omega))
          (try simp only [Act.put, aP, aZ, aS])
          refine pl_done ?_
          refine hK3.out _ _ ?_
          (try clear hK3 K3)
          refine wk_seq (fun K4 hK4 => ?_)
          refine wp_cond_false rfl ?_
          refine wp_exit ?_
          refine hK1.out _ _ ?_
          (try clear hK1 K1)
          refine wk_seq (fun K9 hK9 => ?_)
          refine wk_reg ?_
          iterate 2 (refine pl_take (v := ?_) rfl ?_ ?_; rotate_left; (· (go_simp; first | done | with_reducible rfl | rfl | omega | assumption | (simp; omega))); (try simp only [Act.put, aP, aZ, aS]))
          iterate 2 (refine pl_take (v := .bool true) rfl ?_ ?_; (· (go_simp; first | done | with_reducible rfl | rfl | omega | assumption | (simp; omega))); (try simp only [Act.put, aP, aZ, aS]))
          iterate 2 (refine pl_take (v := ?_) (by kernel_rfl) ?_ ?_; rotate_left; (· (go_simp; first | done | with_reducible rfl | rfl | omega | assumption | (simp; omega))); (try simp only [Act.put, aP, aZ, aS]))
          refine pl_take (v := .bool false) (by kernel_rfl) ?_ ?_
          · (go_simp; first | done | with_reducible rfl | rfl | omega | assumption | (simp; omega))
          (try simp only [Act.put, aP, aZ, aS])
          iterate 2 (refine pl_take (v := .bool false) rfl ?_ ?_; (· (go_simp; first | done | with_reducible rfl | rfl | omega | assumption | (simp; omega))); (try simp only [Act.put, aP, aZ, aS]))
          refine pl_done ?_
          refine hK9.out _ _ ?_
          (try clear hK9 K9)
          refine wp_ret ?_
          go_ret
          exact ⟨rfl, (by assumption : Sat w0 _ _).pick (by (repeat (first | exact Pick.nil _ | exact Pick.tail _ | exact Out.here _ | apply Out.there | apply Pick.cons | apply Pick.drop)))⟩
      · obtain rfl : R = false := by rw [hR]; simp [h1]
        clear hR
        refine wk_seq (fun K3 hK3 => ?_)
        refine wk_reg ?_
        refine pl_take (v := .bool false) rfl ?_ ?_
        · (go_simp; first | done | with_reducible rfl | rfl | omega | assumption | (simp; omega))
        (try simp only [Act.put, aP, aZ, aS])
        refine pl_done ?_
        refine hK3.out _ _ ?_
        (try clear hK3 K3)
        refine wk_seq (fun K4 hK4 => ?_)
        refine wp_cond_false rfl ?_
        refine wp_exit ?_
        refine hK1.out _ _ ?_
        (try clear hK1 K1)
        refine wk_seq (fun K9 hK9 => ?_)
        refine wk_reg ?_
        iterate 2 (refine pl_take (v := ?_) rfl ?_ ?_; rotate_left; (· (go_simp; first | done | with_reducible rfl | rfl | omega | assumption | (simp; omega))); (try simp only [Act.put, aP, aZ, aS]))
        iterate 2 (refine pl_take (v := .bool false) rfl ?_ ?_; (· (go_simp; first | done | with_reducible rfl | rfl | omega | assumption | (simp; omega))); (try simp only [Act.put, aP, aZ, aS]))
        iterate 3 (refine pl_skip (by kernel_rfl) ?_; (try simp only [Act.put, aP, aZ, aS]))
        iterate 2 (refine pl_take (v := .bool false) rfl ?_ ?_; (· (go_simp; first | done | with_reducible rfl | rfl | omega | assumption | (simp; omega))); (try simp only [Act.put, aP, aZ, aS]))
        refine pl_done ?_
        refine hK9.out _ _ ?_
        (try clear hK9 K9)
        refine wp_ret ?_
        go_ret
        exact ⟨rfl, (by assumption : Sat w0 _ _).pick (by (repeat (first | exact Pick.nil _ | exact Pick.tail _ | exact Out.here _ | apply Out.there | apply Pick.cons | apply Pick.drop)))⟩

theorem right11_spec {w0 w : World} {L : List HP} {A : Option Addr} {n c : Nat} (xs : List Int) (hx : Hid (n = xs.length)) (hn : n ≤ 1048576) (hs : Sat w0 w L) (hA : Rd w0 L A n 1 (I8 xs)) :
    Calls Try.prog 60 #[.slice A n c] w (RetB w0 L (okServers xs)) := by
  go_enter Try.func60, Try.ntmps60
  refine wk_seq (fun K0 hK0 => ?_)
  refine wk_reg ?_
  refine pl_take (v := .bool false) rfl ?_ ?_
  · (go_simp; first | done | with_reducible rfl | rfl | omega | assumption | (simp; omega))
  (try simp only [Act.put, aP, aZ, aS])
  refine pl_done ?_
  refine hK0.out _ _ ?_
  (try clear hK0 K0)
  refine wk_seq (fun K1 hK1 => ?_)
  refine wk_reg ?_
  refine pl_take (v := ?_) rfl ?_ ?_
  rotate_left
  · (go_simp; first | done | with_reducible rfl | rfl | omega | assumption | (simp; omega))
  (try simp only [Act.put, aP, aZ, aS])
  refine pl_eff rfl (fun Kp hKp => ?_)
  go_simp
  (refine (rightServers_spec xs hx (by omega) (by assumption) (by (repeat (first | with_reducible assumption | with_reducible exact Rd.own | with_reducible exact Rd.nil | with_reducible apply Rd.cons)))).mono ?_; rintro e4 w4 ⟨rfl, hs4⟩)
  (try go_wp2_with fail)
  refine hKp.out _ _ ?_
  clear hKp Kp
  (try simp only [Act.put, aP, aZ, aS])
  refine pl_take (v := ?_) rfl ?_ ?_
  rotate_left
  · (go_simp; first | done | with_reducible rfl | rfl | omega | assumption | (simp; omega))
  (try simp only [Act.put, aP, aZ, aS])
  refine pl_done ?_
  refine hK1.out _ _ ?_
  (try clear hK1 K1)
  refine wp_ret ?_
  go_ret
  exact ⟨rfl, (by assumption : Sat w0 _ _).pick (by (repeat (first | exact Pick.nil _ | exact Pick.tail _ | exact Out.here _ | apply Out.there | apply Pick.cons | apply Pick.drop)))⟩

theorem besideC_spec {w0 w : World} {L : List HP} {A B : Option Addr} {n m c d : Nat} (a b : List Int) (ha : Hid (n = a.length)) (hb : Hid (m = b.length)) (hn : n ≤ 1048576) (hm : m ≤ 1048576) (hs : Sat w0 w L) (hA : Rd w0 L A n 1 (I8 a)) (hB : Rd w0 L B m 1 (I8 b)) :
    Calls Try.prog 59 #[.slice A n c, .slice B m d] w (RetB w0 L (besideP a b)) := by
  have hRa := fun (w : World) (L' : List HP) (hs : Sat w0 w L') (h : Rd w0 L' A n 1 (I8 a)) => rightC_spec (c := c) a ha hn hs h
  have hRb := fun (w : World) (L' : List HP) (hs : Sat w0 w L') (h : Rd w0 L' B m 1 (I8 b)) => rightC_spec (c := d) b hb hm hs h
  cases hoa : okServers a with
  | false =>
    rw [hoa] at hRa
    rw [show besideP a b = false from by unfold besideP; rw [hoa]; rfl]
    clear hoa
    go_enter Try.func59, Try.ntmps59
    refine wk_seq (fun K0 hK0 => ?_)
    refine wk_reg ?_
    refine pl_take (v := .bool false) rfl ?_ ?_
    · (go_simp; first | done | with_reducible rfl | rfl | omega | assumption | (simp; omega))
    (try simp only [Act.put, aP, aZ, aS])
    refine pl_done ?_
    refine hK0.out _ _ ?_
    (try clear hK0 K0)
    refine wk_seq (fun K1 hK1 => ?_)
    refine wk_seq (fun K2 hK2 => ?_)
    refine wk_reg ?_
    refine pl_take (v := ?_) rfl ?_ ?_
    rotate_left
    · (go_simp; first | done | with_reducible rfl | rfl | omega | assumption | (simp; omega))
    (try simp only [Act.put, aP, aZ, aS])
    refine pl_eff rfl (fun Kp hKp => ?_)
    go_simp
    (refine (hRa _ _ (by assumption) (by (repeat (first | with_reducible assumption | with_reducible exact Rd.own | with_reducible exact Rd.nil | with_reducible apply Rd.cons)))).mono ?_; rintro e7 w7 ⟨rfl, hs7⟩)
    (try go_wp2_with fail)
    refine hKp.out _ _ ?_
    clear hKp Kp
    (try simp only [Act.put, aP, aZ, aS])
    iterate 2 (refine pl_take (v := .bool true) rfl ?_ ?_; (· (go_simp; first | done | with_reducible rfl | rfl | omega | assumption | (simp; omega))); (try simp only [Act.put, aP, aZ, aS]))
    iterate 3 (refine pl_skip (by kernel_rfl) ?_; (try simp only [Act.put, aP, aZ, aS]))
    refine pl_take (v := .bool true) rfl ?_ ?_
    · (go_simp; first | done | with_reducible rfl | rfl | omega | assumption | (simp; omega))
    (try simp only [Act.put, aP, aZ, aS])
    refine pl_done ?_
    refine hK2.out _ _ ?_
    (try clear hK2 K2)
    refine wp_cond_true rfl ?_
    refine wk_seq (fun K3 hK3 => ?_)
    refine wk_reg ?_
    refine pl_take (v := .bool false) rfl ?_ ?_
    · (go_simp; first | done | with_reducible rfl | rfl | omega | assumption | (simp; omega))
    (try simp only [Act.put, aP, aZ, aS])
    refine pl_done ?_
    refine hK3.out _ _ ?_
    (try clear hK3 K3)
    refine wp_ret ?_
    go_ret
    exact ⟨rfl, (by assumption : Sat w0 _ _).pick (by (repeat (first | exact Pick.nil _ | exact Pick.tail _ | exact Out.here _ | apply Out.there | apply Pick.cons | apply Pick.drop)))⟩
  | true =>
    cases hob : okServers b with
    | false =>
      rw [hoa] at hRa
      rw [hob] at hRb
      rw [show besideP a b = false from by unfold besideP; rw [hoa, hob]; rfl]
      clear hoa hob
      go_enter Try.func59, Try.ntmps59
      refine wk_seq (fun K0 hK0 => ?_)
      refine wk_reg ?_
      refine pl_take (v := .bool false) rfl ?_ ?_
      · (go_simp; first | done | with_reducible rfl | rfl | omega | assumption | (simp; omega))
      (try simp only [Act.put, aP, aZ, aS])
      refine pl_done ?_
      refine hK0.out _ _ ?_
      (try clear hK0 K0)
      refine wk_seq (fun K1 hK1 => ?_)
      refine wk_seq (fun K2 hK2 => ?_)
      refine wk_reg ?_
      refine pl_take (v := ?_) rfl ?_ ?_
      rotate_left
      · (go_simp; first | done | with_reducible rfl | rfl | omega | assumption | (simp; omega))
      (try simp only [Act.put, aP, aZ, aS])
      refine pl_eff rfl (fun Kp hKp => ?_)
      go_simp
      (refine (hRa _ _ (by assumption) (by (repeat (first | with_reducible assumption | with_reducible exact Rd.own | with_reducible exact Rd.nil | with_reducible apply Rd.cons)))).mono ?_; rintro e7 w7 ⟨rfl, hs7⟩)
      (try go_wp2_with fail)
      refine hKp.out _ _ ?_
      clear hKp Kp
      (try simp only [Act.put, aP, aZ, aS])
      iterate 2 (refine pl_take (v := .bool false) rfl ?_ ?_; (· (go_simp; first | done | with_reducible rfl | rfl | omega | assumption | (simp; omega))); (try simp only [Act.put, aP, aZ, aS]))
      refine pl_take (v := ?_) (by kernel_rfl) ?_ ?_
      rotate_left
      · (go_simp; first | done | with_reducible rfl | rfl | omega | assumption | (simp; omega))
      (try simp only [Act.put, aP, aZ, aS])
      refine pl_eff (by kernel_rfl) (fun Kp hKp => ?_)
      go_simp
      (refine (hRb _ _ (by assumption) (by (repeat (first | with_reducible assumption | with_reducible exact Rd.own | with_reducible exact Rd.nil | with_reducible apply Rd.cons)))).mono ?_; rintro e11 w11 ⟨rfl, hs11⟩)
      (try go_wp2_with fail)
      refine hKp.out _ _ ?_
      clear hKp Kp
      (try simp only [Act.put, aP, aZ, aS])
      refine pl_take (v := .bool true) (by kernel_rfl) ?_ ?_
      · (go_simp; first | done | with_reducible rfl | rfl | omega | assumption | (simp; omega))
      (try simp only [Act.put, aP, aZ, aS])
      refine pl_take (v := .bool true) rfl ?_ ?_
      · (go_simp; first | done | with_reducible rfl | rfl | omega | assumption | (simp; omega))
      (try simp only [Act.put, aP, aZ, aS])
      refine pl_done ?_
      refine hK2.out _ _ ?_
      (try clear hK2 K2)
      refine wp_cond_true rfl ?_
      refine wk_seq (fun K3 hK3 => ?_)
      refine wk_reg ?_
      refine pl_take (v := .bool false) rfl ?_ ?_
      · (go_simp; first | done | with_reducible rfl | rfl | omega | assumption | (simp; omega))
      (try simp only [Act.put, aP, aZ, aS])
      refine pl_done ?_
      refine hK3.out _ _ ?_
      (try clear hK3 K3)
      refine wp_ret ?_
      go_ret
      exact ⟨rfl, (by assumption : Sat w0 _ _).pick (by (repeat (first | exact Pick.nil _ | exact Pick.tail _ | exact Out.here _ | apply Out.there | apply Pick.cons | apply Pick.drop)))⟩
    | true =>
      obtain ⟨ia, ba, la1, la7⟩ := ok_inc hoa
      obtain ⟨ib, bb, lb1, lb7⟩ := ok_inc hob
      rw [hoa] at hRa
      rw [hob] at hRb
      have a64 : ∀ x ∈ a, In64 x := fun x hx => by have := ba x hx; unfold In64; omega
      have b64 : ∀ x ∈ b, In64 x := fun x hx => by have := bb x hx; unfold In64; omega
      obtain ⟨R, hR⟩ : ∃ R, besideP a b = R := ⟨_, rfl⟩
      have hR2 : R = if m < n then decide (cnt b a = m ∧ n ≤ m + 1) else decide (cnt a b = n ∧ m ≤ n + 1) := by rw [← hR, besideP, hoa, hob, ← ha.out, ← hb.out]; rfl
      rw [hR]
      clear hR
      have hwn : IntKind.i64.wrap ((n : Int) + 1) = (n : Int) + 1 := IntWalk.i64_in _ (by omega)
      have hwm : IntKind.i64.wrap ((m : Int) + 1) = (m : Int) + 1 := IntWalk.i64_in _ (by omega)
      clear hoa hob la1 la7 lb1 lb7
      by_cases hlt : m < n
      · have hC := fun (w : World) (L' : List HP) (hs : Sat w0 w L') (h1 : Rd w0 L' B m 1 (I8 b)) (h2 : Rd w0 L' A n 1 (I8 a)) => count_spec (c := d) (d := c) b a hb ha hm hn ib ia b64 a64 hs h1 h2
        rw [if_pos hlt] at hR2
        have hlt' : (m : Int) < (n : Int) := by omega
        obtain ⟨q, hq⟩ : ∃ q, cnt b a = q := ⟨_, rfl⟩
        rw [hq] at hC hR2
        clear hq
        have HR2 := Hid.mk' hR2
        clear hR2
        go_enter Try.func59, Try.ntmps59
        refine wk_seq (fun K0 hK0 => ?_)
        refine wk_reg ?_
        refine pl_take (v := .bool false) rfl ?_ ?_
        · (go_simp; first | done | with_reducible rfl | rfl | omega | assumption | (simp; omega))
        (try simp only [Act.put, aP, aZ, aS])
        refine pl_done ?_
        refine hK0.out _ _ ?_
        (try clear hK0 K0)
        refine wk_seq (fun K1 hK1 => ?_)
        refine wk_seq (fun K2 hK2 => ?_)
        refine wk_reg ?_
        refine pl_take (v := ?_) rfl ?_ ?_
        rotate_left
        · (go_simp; first | done | with_reducible rfl | rfl | omega | assumption | (simp; omega))
        (try simp only [Act.put, aP, aZ, aS])
        refine pl_eff rfl (fun Kp hKp => ?_)
        go_simp
        (refine (hRa _ _ (by assumption) (by (repeat (first | with_reducible assumption | with_reducible exact Rd.own | with_reducible exact Rd.nil | with_reducible apply Rd.cons)))).mono ?_; rintro e7 w7 ⟨rfl, hs7⟩)
        (try go_wp2_with fail)
        refine hKp.out _ _ ?_
        clear hKp Kp
        (try simp only [Act.put, aP, aZ, aS])
        iterate 2 (refine pl_take (v := .bool false) rfl ?_ ?_; (· (go_simp; first | done | with_reducible rfl | rfl | omega | assumption | (simp; omega))); (try simp only [Act.put, aP, aZ, aS]))
        refine pl_take (v := ?_) (by kernel_rfl) ?_ ?_
        rotate_left
        · (go_simp; first | done | with_reducible rfl | rfl | omega | assumption | (simp; omega))
        (try simp only [Act.put, aP, aZ, aS])
        refine pl_eff (by kernel_rfl) (fun Kp hKp => ?_)
        go_simp
        (refine (hRb _ _ (by assumption) (by (repeat (first | with_reducible assumption | with_reducible exact Rd.own | with_reducible exact Rd.nil | with_reducible apply Rd.cons)))).mono ?_; rintro e11 w11 ⟨rfl, hs11⟩)
        (try go_wp2_with fail)
        refine hKp.out _ _ ?_
        clear hKp Kp
        (try simp only [Act.put, aP, aZ, aS])
        refine pl_take (v := .bool false) (by kernel_rfl) ?_ ?_
        · (go_simp; first | done | with_reducible rfl | rfl | omega | assumption | (simp; omega))
        (try simp only [Act.put, aP, aZ, aS])
        refine pl_take (v := .bool false) rfl ?_ ?_
        · (go_simp; first | done | with_reducible rfl | rfl | omega | assumption | (simp; omega))
        (try simp only [Act.put, aP, aZ, aS])
        refine pl_done ?_
        refine hK2.out _ _ ?_
        (try clear hK2 K2)
        refine wp_cond_false rfl ?_
        refine wp_skip ?_
        refine hK1.out _ _ ?_
        (try clear hK1 K1)
        refine wk_seq (fun K4 hK4 => ?_)
        refine wk_seq (fun K5 hK5 => ?_)
        refine wk_reg ?_
        iterate 4 (refine pl_take (v := ?_) rfl ?_ ?_; rotate_left; (· (go_simp; first | done | with_reducible rfl | rfl | omega | assumption | (simp; omega))); (try simp only [Act.put, aP, aZ, aS]))
        refine pl_take (v := .bool true) rfl ?_ ?_
        · (go_simp; first | done | with_reducible rfl | rfl | omega | assumption | (simp; omega))
        (try simp only [Act.put, aP, aZ, aS])
        refine pl_done ?_
        refine hK5.out _ _ ?_
        (try clear hK5 K5)
        refine wp_cond_true rfl ?_
        refine wk_reg ?_
        iterate 2 (refine pl_take (v := ?_) rfl ?_ ?_; rotate_left; (· (go_simp; first | done | with_reducible rfl | rfl | omega | assumption | (simp; omega))); (try simp only [Act.put, aP, aZ, aS]))
        refine pl_take (v := ?_) rfl ?_ ?_
        rotate_left
        · (go_simp; first | done | with_reducible rfl | rfl | omega | assumption | (simp; omega))
        (try simp only [Act.put, aP, aZ])
        refine pl_take (v := ?_) rfl ?_ ?_
        rotate_left
        · (go_simp; first | done | with_reducible rfl | rfl | omega | assumption | (simp; omega))
        (try simp only [Act.put, aP, aZ, aS])
        refine pl_done ?_
        refine hK4.out _ _ ?_
        (try clear hK4 K4)
        refine wk_seq (fun K6 hK6 => ?_)
        refine wk_reg ?_
        iterate 2 (refine pl_take (v := ?_) rfl ?_ ?_; rotate_left; (· (go_simp; first | done | with_reducible rfl | rfl | omega | assumption | (simp; omega))); (try simp only [Act.put, aP, aZ, aS]))
        refine pl_eff rfl (fun Kp hKp => ?_)
        go_simp
        (refine (hC _ _ (by assumption) (by (repeat (first | with_reducible assumption | with_reducible exact Rd.own | with_reducible exact Rd.nil | with_reducible apply Rd.cons))) (by (repeat (first | with_reducible assumption | with_reducible exact Rd.own | with_reducible exact Rd.nil | with_reducible apply Rd.cons)))).mono ?_; rintro e23 w23 ⟨rfl, hs23⟩)
        (try go_wp2_with fail)
        refine hKp.out _ _ ?_
        clear hKp Kp
        (try simp only [Act.put, aP, aZ, aS])
        refine pl_take (v := ?_) rfl ?_ ?_
        rotate_left
        · (go_simp; first | done | with_reducible rfl | rfl | omega | assumption | (simp; omega))
        (try simp only [Act.put, aP, aZ, aS])
        refine pl_done ?_
        refine hK6.out _ _ ?_
        (try clear hK6 K6)
        refine wk_seq (fun K7 hK7 => ?_)
        refine wk_reg ?_
        iterate 3 (refine pl_take (v := ?_) rfl ?_ ?_; rotate_left; (· (go_simp; first | done | with_reducible rfl | rfl | omega | assumption | (simp; omega))); (try simp only [Act.put, aP, aZ, aS]))
        by_cases e1 : ((q : Int) == (m : Int)) = true
        · refine pl_take (v := .bool true) rfl ?_ ?_
          · (go_simp; first | done | with_reducible rfl | rfl | omega | assumption | (simp; omega))
          (try simp only [Act.put, aP, aZ, aS])
          refine pl_take (v := .bool true) rfl ?_ ?_
          · (go_simp; first | done | with_reducible rfl | rfl | omega | assumption | (simp; omega))
          (try simp only [Act.put, aP, aZ, aS])
          iterate 5 (refine pl_take (v := ?_) (by kernel_rfl) ?_ ?_; rotate_left; (· (go_simp; first | done | with_reducible rfl | rfl | omega | assumption | (simp; omega))); (try simp only [Act.put, aP, aZ, aS]))
          by_cases e2 : (n : Int) ≤ (m : Int) + 1
          · refine pl_take (v := .bool true) (by kernel_rfl) ?_ ?_
            · (go_simp; first | done | with_reducible rfl | rfl | omega | assumption | (simp; omega))
            (try simp only [Act.put, aP, aZ, aS])
            iterate 2 (refine pl_take (v := .bool true) rfl ?_ ?_; (· (go_simp; first | done | with_reducible rfl | rfl | omega | assumption | (simp; omega))); (try simp only [Act.put, aP, aZ, aS]))
            refine pl_done ?_
            refine hK7.out _ _ ?_
            (try clear hK7 K7)
            refine wp_ret ?_
            go_ret
            refine ⟨?_, (by assumption : Sat w0 _ _).pick (by (repeat (first | exact Pick.nil _ | exact Pick.tail _ | exact Out.here _ | apply Out.there | apply Pick.cons | apply Pick.drop)))⟩
            simp at e1
            (rw [HR2.out]; simp; omega)
          · refine pl_take (v := .bool false) (by kernel_rfl) ?_ ?_
            · (go_simp; first | done | with_reducible rfl | rfl | omega | assumption | (simp; omega))
            (try simp only [Act.put, aP, aZ, aS])
            iterate 2 (refine pl_take (v := .bool false) rfl ?_ ?_; (· (go_simp; first | done | with_reducible rfl | rfl | omega | assumption | (simp; omega))); (try simp only [Act.put, aP, aZ, aS]))
            refine pl_done ?_
            refine hK7.out _ _ ?_
            (try clear hK7 K7)
            refine wp_ret ?_
            go_ret
            refine ⟨?_, (by assumption : Sat w0 _ _).pick (by (repeat (first | exact Pick.nil _ | exact Pick.tail _ | exact Out.here _ | apply Out.there | apply Pick.cons | apply Pick.drop)))⟩
            simp at e1
            (rw [HR2.out]; simp; omega)
        · refine pl_take (v := .bool false) rfl ?_ ?_
          · (go_simp; first | done | with_reducible rfl | rfl | omega | assumption | (simp; omega))
          (try simp only [Act.put, aP, aZ, aS])
          refine pl_take (v := .bool false) rfl ?_ ?_
          · (go_simp; first | done | with_reducible rfl | rfl | omega | assumption | (simp; omega))
          (try simp only [Act.put, aP, aZ, aS])
          iterate 6 (refine pl_skip (by kernel_rfl) ?_; (try simp only [Act.put, aP, aZ, aS]))
          iterate 2 (refine pl_take (v := .bool false) rfl ?_ ?_; (· (go_simp; first | done | with_reducible rfl | rfl | omega | assumption | (simp; omega))); (try simp only [Act.put, aP, aZ, aS]))
          refine pl_done ?_
          refine hK7.out _ _ ?_
          (try clear hK7 K7)
          refine wp_ret ?_
          go_ret
          refine ⟨?_, (by assumption : Sat w0 _ _).pick (by (repeat (first | exact Pick.nil _ | exact Pick.tail _ | exact Out.here _ | apply Out.there | apply Pick.cons | apply Pick.drop)))⟩
          simp at e1
          (rw [HR2.out]; simp; omega)
      · have hC := fun (w : World) (L' : List HP) (hs : Sat w0 w L') (h1 : Rd w0 L' A n 1 (I8 a)) (h2 : Rd w0 L' B m 1 (I8 b)) => count_spec (c := c) (d := d) a b ha hb hn hm ia ib a64 b64 hs h1 h2
        rw [if_neg hlt] at hR2
        have hlt' : ¬ (m : Int) < (n : Int) := by omega
        obtain ⟨q, hq⟩ : ∃ q, cnt a b = q := ⟨_, rfl⟩
        rw [hq] at hC hR2
        clear hq
        have HR2 := Hid.mk' hR2
        clear hR2
        go_enter Try.func59, Try.ntmps59
        refine wk_seq (fun K0 hK0 => ?_)
        refine wk_reg ?_
        refine pl_take (v := .bool false) rfl ?_ ?_
        · (go_simp; first | done | with_reducible rfl | rfl | omega | assumption | (simp; omega))
        (try simp only [Act.put, aP, aZ, aS])
        refine pl_done ?_
        refine hK0.out _ _ ?_
        (try clear hK0 K0)
        refine wk_seq (fun K1 hK1 => ?_)
        refine wk_seq (fun K2 hK2 => ?_)
        refine wk_reg ?_
        refine pl_take (v := ?_) rfl ?_ ?_
        rotate_left
        · (go_simp; first | done | with_reducible rfl | rfl | omega | assumption | (simp; omega))
        (try simp only [Act.put, aP, aZ, aS])
        refine pl_eff rfl (fun Kp hKp => ?_)
        go_simp
        (refine (hRa _ _ (by assumption) (by (repeat (first | with_reducible assumption | with_reducible exact Rd.own | with_reducible exact Rd.nil | with_reducible apply Rd.cons)))).mono ?_; rintro e7 w7 ⟨rfl, hs7⟩)
        (try go_wp2_with fail)
        refine hKp.out _ _ ?_
        clear hKp Kp
        (try simp only [Act.put, aP, aZ, aS])
        iterate 2 (refine pl_take (v := .bool false) rfl ?_ ?_; (· (go_simp; first | done | with_reducible rfl | rfl | omega | assumption | (simp; omega))); (try simp only [Act.put, aP, aZ, aS]))
        refine pl_take (v := ?_) (by kernel_rfl) ?_ ?_
        rotate_left
        · (go_simp; first | done | with_reducible rfl | rfl | omega | assumption | (simp; omega))
        (try simp only [Act.put, aP, aZ, aS])
        refine pl_eff (by kernel_rfl) (fun Kp hKp => ?_)
        go_simp
        (refine (hRb _ _ (by assumption) (by (repeat (first | with_reducible assumption | with_reducible exact Rd.own | with_reducible exact Rd.nil | with_reducible apply Rd.cons)))).mono ?_; rintro e11 w11 ⟨rfl, hs11⟩)
        (try go_wp2_with fail)
        refine hKp.out _ _ ?_
        clear hKp Kp
        (try simp only [Act.put, aP, aZ, aS])
        refine pl_take (v := .bool false) (by kernel_rfl) ?_ ?_
        · (go_simp; first | done | with_reducible rfl | rfl | omega | assumption | (simp; omega))
        (try simp only [Act.put, aP, aZ, aS])
        refine pl_take (v := .bool false) rfl ?_ ?_
        · (go_simp; first | done | with_reducible rfl | rfl | omega | assumption | (simp; omega))
        (try simp only [Act.put, aP, aZ, aS])
        refine pl_done ?_
        refine hK2.out _ _ ?_
        (try clear hK2 K2)
        refine wp_cond_false rfl ?_
        refine wp_skip ?_
        refine hK1.out _ _ ?_
        (try clear hK1 K1)
        refine wk_seq (fun K4 hK4 => ?_)
        refine wk_seq (fun K5 hK5 => ?_)
        refine wk_reg ?_
        iterate 4 (refine pl_take (v := ?_) rfl ?_ ?_; rotate_left; (· (go_simp; first | done | with_reducible rfl | rfl | omega | assumption | (simp; omega))); (try simp only [Act.put, aP, aZ, aS]))
        refine pl_take (v := .bool false) rfl ?_ ?_
        · (go_simp; first | done | with_reducible rfl | rfl | omega | assumption | (simp; omega))
        (try simp only [Act.put, aP, aZ, aS])
        refine pl_done ?_
        refine hK5.out _ _ ?_
        (try clear hK5 K5)
        refine wp_cond_false rfl ?_
        refine wp_skip ?_
        refine hK4.out _ _ ?_
        (try clear hK4 K4)
        refine wk_seq (fun K6 hK6 => ?_)
        refine wk_reg ?_
        iterate 2 (refine pl_take (v := ?_) rfl ?_ ?_; rotate_left; (· (go_simp; first | done | with_reducible rfl | rfl | omega | assumption | (simp; omega))); (try simp only [Act.put, aP, aZ, aS]))
        refine pl_eff rfl (fun Kp hKp => ?_)
        go_simp
        (refine (hC _ _ (by assumption) (by (repeat (first | with_reducible assumption | with_reducible exact Rd.own | with_reducible exact Rd.nil | with_reducible apply Rd.cons))) (by (repeat (first | with_reducible assumption | with_reducible exact Rd.own | with_reducible exact Rd.nil | with_reducible apply Rd.cons)))).mono ?_; rintro e23 w23 ⟨rfl, hs23⟩)
        (try go_wp2_with fail)
        refine hKp.out _ _ ?_
        clear hKp Kp
        (try simp only [Act.put, aP, aZ, aS])
        refine pl_take (v := ?_) rfl ?_ ?_
        rotate_left
        · (go_simp; first | done | with_reducible rfl | rfl | omega | assumption | (simp; omega))
        (try simp only [Act.put, aP, aZ, aS])
        refine pl_done ?_
        refine hK6.out _ _ ?_
        (try clear hK6 K6)
        refine wk_seq (fun K7 hK7 => ?_)
        refine wk_reg ?_
        iterate 3 (refine pl_take (v := ?_) rfl ?_ ?_; rotate_left; (· (go_simp; first | done | with_reducible rfl | rfl | omega | assumption | (simp; omega))); (try simp only [Act.put, aP, aZ, aS]))
        by_cases e1 : ((q : Int) == (n : Int)) = true
        · refine pl_take (v := .bool true) rfl ?_ ?_
          · (go_simp; first | done | with_reducible rfl | rfl | omega | assumption | (simp; omega))
          (try simp only [Act.put, aP, aZ, aS])
          refine pl_take (v := .bool true) rfl ?_ ?_
          · (go_simp; first | done | with_reducible rfl | rfl | omega | assumption | (simp; omega))
          (try simp only [Act.put, aP, aZ, aS])
          iterate 5 (refine pl_take (v := ?_) (by kernel_rfl) ?_ ?_; rotate_left; (· (go_simp; first | done | with_reducible rfl | rfl | omega | assumption | (simp; omega))); (try simp only [Act.put, aP, aZ, aS]))
          by_cases e2 : (m : Int) ≤ (n : Int) + 1
          · refine pl_take (v := .bool true) (by kernel_rfl) ?_ ?_
            · (go_simp; first | done | with_reducible rfl | rfl | omega | assumption | (simp; omega))
            (try simp only [Act.put, aP, aZ, aS])
            iterate 2 (refine pl_take (v := .bool true) rfl ?_ ?_; (· (go_simp; first | done | with_reducible rfl | rfl | omega | assumption | (simp; omega))); (try simp only [Act.put, aP, aZ, aS]))
            refine pl_done ?_
            refine hK7.out _ _ ?_
            (try clear hK7 K7)
            refine wp_ret ?_
            go_ret
            refine ⟨?_, (by assumption : Sat w0 _ _).pick (by (repeat (first | exact Pick.nil _ | exact Pick.tail _ | exact Out.here _ | apply Out.there | apply Pick.cons | apply Pick.drop)))⟩
            simp at e1
            (rw [HR2.out]; simp; omega)
          · refine pl_take (v := .bool false) (by kernel_rfl) ?_ ?_
            · (go_simp; first | done | with_reducible rfl | rfl | omega | assumption | (simp; omega))
            (try simp only [Act.put, aP, aZ, aS])
            iterate 2 (refine pl_take (v := .bool false) rfl ?_ ?_; (· (go_simp; first | done | with_reducible rfl | rfl | omega | assumption | (simp; omega))); (try simp only [Act.put, aP, aZ, aS]))
            refine pl_done ?_
            refine hK7.out _ _ ?_
            (try clear hK7 K7)
            refine wp_ret ?_
            go_ret
            refine ⟨?_, (by assumption : Sat w0 _ _).pick (by (repeat (first | exact Pick.nil _ | exact Pick.tail _ | exact Out.here _ | apply Out.there | apply Pick.cons | apply Pick.drop)))⟩
            simp at e1
            (rw [HR2.out]; simp; omega)
        · refine pl_take (v := .bool false) rfl ?_ ?_
          · (go_simp; first | done | with_reducible rfl | rfl | omega | assumption | (simp; omega))
          (try simp only [Act.put, aP, aZ, aS])
          refine pl_take (v := .bool false) rfl ?_ ?_
          · (go_simp; first | done | with_reducible rfl | rfl | omega | assumption | (simp; omega))
          (try simp only [Act.put, aP, aZ, aS])
          iterate 6 (refine pl_skip (by kernel_rfl) ?_; (try simp only [Act.put, aP, aZ, aS]))
          iterate 2 (refine pl_take (v := .bool false) rfl ?_ ?_; (· (go_simp; first | done | with_reducible rfl | rfl | omega | assumption | (simp; omega))); (try simp only [Act.put, aP, aZ, aS]))
          refine pl_done ?_
          refine hK7.out _ _ ?_
          (try clear hK7 K7)
          refine wp_ret ?_
          go_ret
          refine ⟨?_, (by assumption : Sat w0 _ _).pick (by (repeat (first | exact Pick.nil _ | exact Pick.tail _ | exact Out.here _ | apply Out.there | apply Pick.cons | apply Pick.drop)))⟩
          simp at e1
          (rw [HR2.out]; simp; omega)
end Go.Proofs.Ytcpcdhlfdabbnaa
