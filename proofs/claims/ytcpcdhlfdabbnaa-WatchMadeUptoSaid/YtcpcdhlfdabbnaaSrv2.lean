/-
  Lists of servers: the walks.
-/
import Derived.Test.YtcpcdhlfdabbnaaSrv1
import Derived.Test.YtcpcdhlfdabbnaaReg
namespace Go.Proofs.Ytcpcdhlfdabbnaa
open Go Go.RowKit Sl Go.Shelf

theorem equal_spec {w0 w : World} {L : List HP} {A B : Option Addr} {n m c d : Nat} (l k : List UInt8) (hs : Sat w0 w L) (hA : Rd w0 L A n 1 (B8 l)) (hB : Rd w0 L B m 1 (B8 k)) :
    Calls Try.prog 47 #[.slice A n c, .slice B m d] w fun r w' => r = .returned (.bool (l == k)) ∧ w = w' := by
  go_enter Try.func47, Try.ntmps47
  go_wp2_with (first | ((with_reducible apply wl_unguard); rfl) | ((with_reducible apply wl_buildSlice); assumption; rfl; (go_simp; rfl); (simp [Value.cells]); omega; intro b w1 hs1) | ((with_reducible apply wl_append); go_must (assumption; rfl; rfl; (repeat (first | exact Out.here _ | apply Out.there)); (repeat (first | assumption | exact Rd.own | exact Rd.nil | apply Rd.cons)); (first | exact B8_one _ | exact I8_one _ | (simp [Value.oneCell'])); (first | omega | (simp only [maxLen]; omega)); omega; intro A1 c1 w1 hs1 hc1; (try ((refine hs1.own_elim ?_ ?_); omega; rintro g1 rfl)); try simp only [Nat.zero_add, List.nil_append] at hs1 hc1)) | ((with_reducible apply wl_store_own); assumption; rfl; (go_simp; rfl); (repeat (first | exact Out.here _ | apply Out.there)); rfl; rfl; omega; intro w1 hs1) | ((with_reducible apply wl_store1); assumption; rfl; (go_simp; rfl); (repeat (first | exact Out.here _ | apply Out.there)); rfl; rfl; simp; intro w1 hs1; (try simp only [List.setIfInBounds_toArray] at hs1); (try simp only [List.set_cons_succ] at hs1); (try simp only [List.set_cons_zero] at hs1)) | ((with_reducible apply wl_load); assumption; rfl; (repeat (first | assumption | exact Cl.blk rfl | apply Cl.cons))) | ((with_reducible apply wl_b2s); assumption; rfl; (repeat (first | assumption | exact Rd.own | exact Rd.nil | apply Rd.cons)); first | rfl | (simp [B8_app])))
  go_ret
  exact ⟨rfl, rfl⟩

set_option maxHeartbeats 1000000 in
theorem rightServers_spec {w0 w : World} {L : List HP} {A : Option Addr} {n c : Nat} (xs : List Int) (hx : Hid (n = xs.length)) (hn : n ≤ 4294967296) (hs : Sat w0 w L) (hA : Rd w0 L A n 1 (I8 xs)) :
    Calls Try.prog 76 #[.slice A n c] w (RetB w0 L (okServers xs)) := by
  go_enter Try.func76, Try.ntmps76
  go_wp2_with fail
  go_loopw [3] (fun i wr => ∃ (k : Nat) (last : Int), i = .int .i64 k ∧ k ≤ n ∧ -1 ≤ last ∧ (k = 0 → last = -1) ∧ (0 < k → xs[k - 1]? = some last) ∧ rise (-1) xs = rise last (xs.drop k) ∧ Sat w0 wr L) (fun i _ => n - (intOf i).toNat)
  case atStart => exact ⟨0, -1, rfl, Nat.zero_le _, by omega, fun _ => rfl, by omega, rfl, hs⟩
  case round =>
    obtain ⟨k, last, rfl, hk, hl1, hl0, hlk, he, hs2⟩ := hrel
    clear hs
    by_cases hkn : k < n
    · obtain ⟨x, hx1⟩ : ∃ x, xs[k]? = some x := ⟨xs[k]'(by have := hx.out; omega), List.getElem?_eq_getElem _⟩
      obtain ⟨ga, oa, rfl⟩ := hA.some_of hs2 (by omega)
      have ca := hA.elt (I8_at xs k x hx1)
      have i0 : (0 : Int) ≤ (k : Int) := by omega
      have i1 : (k : Int) < (n : Int) := by omega
      have hr : rise last (xs.drop k) = (decide (last < x ∧ x < 16) && rise x (xs.drop (k + 1))) := by rw [drop_at xs k x hx1]; rfl
      have Hx1 := Hid.mk' hx1
      have He := Hid.mk' (he.trans hr)
      have Hl1 := Hid.mk' hl1
      clear hx1 he hr hl1
      have bad : ¬ (last < x ∧ x < 16) → Hid (okServers xs = false) := fun h => by
        unfold Hid okServers
        rw [He.out]
        simp only [h, decide_false, Bool.false_and, Bool.and_false]
      have good : last < x ∧ x < 16 → Hid (rise (-1) xs = rise x (xs.drop (k + 1))) := fun h => by
        unfold Hid
        rw [He.out, decide_eq_true h, Bool.true_and]
      by_cases hx0 : x < 0
      · have d0 : decide (x < 0) = true := by simp [hx0]
        have hb := bad (by have := Hl1.out; omega)
        clear bad good hlk hl0
        go_wp2_with fail
        refine rg_start rfl hs2 (fun wr0 hsr0 => ?_)
        refine rg_take (i := 0) (v := ?_) rfl (by kernel_rfl) (by kernel_rfl) (by kernel_rfl) (fun _ _ _ h => h) (by with_unfolding_all rfl) (by assumption) ?_ ?_
        rotate_left
        · intro w hSw; (first | (go_simp; done) | (go_simp; with_reducible rfl) | (go_simp; rfl))
        (try simp only [Act.put, List.setIfInBounds_toArray, List.set_cons_zero, List.set_cons_succ])
        refine rg_take (i := 1) (v := ?_) rfl (by kernel_rfl) (by kernel_rfl) (by kernel_rfl) (fun _ _ _ h => h) (by with_unfolding_all rfl) (by assumption) ?_ ?_
        rotate_left
        · intro w hSw; (first | (go_simp; done) | (go_simp; with_reducible rfl) | (go_simp; rfl))
        (try simp only [Act.put, List.setIfInBounds_toArray, List.set_cons_zero, List.set_cons_succ])
        refine rg_take (i := 2) (v := ?_) rfl (by kernel_rfl) (by kernel_rfl) (by kernel_rfl) (fun _ _ _ h => h) (by with_unfolding_all rfl) (by assumption) ?_ ?_
        rotate_left
        · intro w hSw; (first | (go_simp; done) | (go_simp; with_reducible rfl) | (go_simp; rfl))
        (try simp only [Act.put, List.setIfInBounds_toArray, List.set_cons_zero, List.set_cons_succ])
        refine rg_take (i := 3) (v := ?_) rfl (by kernel_rfl) (by kernel_rfl) (by kernel_rfl) (fun _ _ _ h => h) (by with_unfolding_all rfl) (by assumption) ?_ ?_
        rotate_left
        · intro w hSw; ((with_reducible apply yl_load); assumption; rfl; (repeat (first | assumption | ((with_reducible apply Cl.blkL); exact rfl) | with_reducible apply Cl.cons)); rfl)
        (try simp only [Act.put, List.setIfInBounds_toArray, List.set_cons_zero, List.set_cons_succ])
        refine rg_take (i := 4) (v := ?_) rfl (by kernel_rfl) (by kernel_rfl) (by kernel_rfl) (fun _ _ _ h => h) (by with_unfolding_all rfl) (by assumption) ?_ ?_
        rotate_left
        · intro w hSw; (first | (go_simp; done) | (go_simp; with_reducible rfl) | (go_simp; rfl))
        (try simp only [Act.put, List.setIfInBounds_toArray, List.set_cons_zero, List.set_cons_succ])
        refine rg_take (i := 5) (v := ?_) rfl (by kernel_rfl) (by kernel_rfl) (by kernel_rfl) (fun _ _ _ h => h) (by with_unfolding_all rfl) (by assumption) ?_ ?_
        rotate_left
        · intro w hSw; (first | (go_simp; done) | (go_simp; with_reducible rfl) | (go_simp; rfl))
        (try simp only [Act.put, List.setIfInBounds_toArray, List.set_cons_zero, List.set_cons_succ])
        refine rg_skip (i := 6) rfl (by kernel_rfl) (by kernel_rfl) (by kernel_rfl) (fun _ _ _ h => h) (by with_unfolding_all rfl) (by assumption) ?_
        (try simp only [Act.put, List.setIfInBounds_toArray, List.set_cons_zero, List.set_cons_succ])
        refine rg_skip (i := 7) rfl (by kernel_rfl) (by kernel_rfl) (by kernel_rfl) (fun _ _ _ h => h) (by with_unfolding_all rfl) (by assumption) ?_
        (try simp only [Act.put, List.setIfInBounds_toArray, List.set_cons_zero, List.set_cons_succ])
        refine rg_skip (i := 8) rfl (by kernel_rfl) (by kernel_rfl) (by kernel_rfl) (fun _ _ _ h => h) (by with_unfolding_all rfl) (by assumption) ?_
        (try simp only [Act.put, List.setIfInBounds_toArray, List.set_cons_zero, List.set_cons_succ])
        refine rg_skip (i := 9) rfl (by kernel_rfl) (by kernel_rfl) (by kernel_rfl) (fun _ _ _ h => h) (by with_unfolding_all rfl) (by assumption) ?_
        (try simp only [Act.put, List.setIfInBounds_toArray, List.set_cons_zero, List.set_cons_succ])
        refine rg_skip (i := 10) rfl (by kernel_rfl) (by kernel_rfl) (by kernel_rfl) (fun _ _ _ h => h) (by with_unfolding_all rfl) (by assumption) ?_
        (try simp only [Act.put, List.setIfInBounds_toArray, List.set_cons_zero, List.set_cons_succ])
        refine rg_take (i := 11) (v := ?_) rfl (by kernel_rfl) (by kernel_rfl) (by kernel_rfl) (fun _ _ _ h => h) (by with_unfolding_all rfl) (by assumption) ?_ ?_
        rotate_left
        · intro w hSw; (first | (go_simp; done) | (go_simp; with_reducible rfl) | (go_simp; rfl))
        (try simp only [Act.put, List.setIfInBounds_toArray, List.set_cons_zero, List.set_cons_succ])
        refine rg_take (i := 12) (v := ?_) rfl (by kernel_rfl) (by kernel_rfl) (by kernel_rfl) (fun _ _ _ h => h) (by with_unfolding_all rfl) (by assumption) ?_ ?_
        rotate_left
        · intro w hSw; (first | (go_simp; done) | (go_simp; with_reducible rfl) | (go_simp; rfl))
        (try simp only [Act.put, List.setIfInBounds_toArray, List.set_cons_zero, List.set_cons_succ])
        refine rg_skip (i := 13) rfl (by kernel_rfl) (by kernel_rfl) (by kernel_rfl) (fun _ _ _ h => h) (by with_unfolding_all rfl) (by assumption) ?_
        (try simp only [Act.put, List.setIfInBounds_toArray, List.set_cons_zero, List.set_cons_succ])
        refine rg_skip (i := 14) rfl (by kernel_rfl) (by kernel_rfl) (by kernel_rfl) (fun _ _ _ h => h) (by with_unfolding_all rfl) (by assumption) ?_
        (try simp only [Act.put, List.setIfInBounds_toArray, List.set_cons_zero, List.set_cons_succ])
        refine rg_skip (i := 15) rfl (by kernel_rfl) (by kernel_rfl) (by kernel_rfl) (fun _ _ _ h => h) (by with_unfolding_all rfl) (by assumption) ?_
        (try simp only [Act.put, List.setIfInBounds_toArray, List.set_cons_zero, List.set_cons_succ])
        refine rg_skip (i := 16) rfl (by kernel_rfl) (by kernel_rfl) (by kernel_rfl) (fun _ _ _ h => h) (by with_unfolding_all rfl) (by assumption) ?_
        (try simp only [Act.put, List.setIfInBounds_toArray, List.set_cons_zero, List.set_cons_succ])
        refine rg_skip (i := 17) rfl (by kernel_rfl) (by kernel_rfl) (by kernel_rfl) (fun _ _ _ h => h) (by with_unfolding_all rfl) (by assumption) ?_
        (try simp only [Act.put, List.setIfInBounds_toArray, List.set_cons_zero, List.set_cons_succ])
        refine rg_skip (i := 18) rfl (by kernel_rfl) (by kernel_rfl) (by kernel_rfl) (fun _ _ _ h => h) (by with_unfolding_all rfl) (by assumption) ?_
        (try simp only [Act.put, List.setIfInBounds_toArray, List.set_cons_zero, List.set_cons_succ])
        refine rg_skip (i := 19) rfl (by kernel_rfl) (by kernel_rfl) (by kernel_rfl) (fun _ _ _ h => h) (by with_unfolding_all rfl) (by assumption) ?_
        (try simp only [Act.put, List.setIfInBounds_toArray, List.set_cons_zero, List.set_cons_succ])
        refine rg_skip (i := 20) rfl (by kernel_rfl) (by kernel_rfl) (by kernel_rfl) (fun _ _ _ h => h) (by with_unfolding_all rfl) (by assumption) ?_
        (try simp only [Act.put, List.setIfInBounds_toArray, List.set_cons_zero, List.set_cons_succ])
        refine rg_skip (i := 21) rfl (by kernel_rfl) (by kernel_rfl) (by kernel_rfl) (fun _ _ _ h => h) (by with_unfolding_all rfl) (by assumption) ?_
        (try simp only [Act.put, List.setIfInBounds_toArray, List.set_cons_zero, List.set_cons_succ])
        refine rg_skip (i := 22) rfl (by kernel_rfl) (by kernel_rfl) (by kernel_rfl) (fun _ _ _ h => h) (by with_unfolding_all rfl) (by assumption) ?_
        (try simp only [Act.put, List.setIfInBounds_toArray, List.set_cons_zero, List.set_cons_succ])
        refine rg_skip (i := 23) rfl (by kernel_rfl) (by kernel_rfl) (by kernel_rfl) (fun _ _ _ h => h) (by with_unfolding_all rfl) (by assumption) ?_
        (try simp only [Act.put, List.setIfInBounds_toArray, List.set_cons_zero, List.set_cons_succ])
        refine rg_skip (i := 24) rfl (by kernel_rfl) (by kernel_rfl) (by kernel_rfl) (fun _ _ _ h => h) (by with_unfolding_all rfl) (by assumption) ?_
        (try simp only [Act.put, List.setIfInBounds_toArray, List.set_cons_zero, List.set_cons_succ])
        refine rg_skip (i := 25) rfl (by kernel_rfl) (by kernel_rfl) (by kernel_rfl) (fun _ _ _ h => h) (by with_unfolding_all rfl) (by assumption) ?_
        (try simp only [Act.put, List.setIfInBounds_toArray, List.set_cons_zero, List.set_cons_succ])
        refine rg_skip (i := 26) rfl (by kernel_rfl) (by kernel_rfl) (by kernel_rfl) (fun _ _ _ h => h) (by with_unfolding_all rfl) (by assumption) ?_
        (try simp only [Act.put, List.setIfInBounds_toArray, List.set_cons_zero, List.set_cons_succ])
        refine rg_take (i := 27) (v := ?_) rfl (by kernel_rfl) (by kernel_rfl) (by kernel_rfl) (fun _ _ _ h => h) (by with_unfolding_all rfl) (by assumption) ?_ ?_
        rotate_left
        · intro w hSw; (first | (go_simp; done) | (go_simp; with_reducible rfl) | (go_simp; rfl))
        (try simp only [Act.put, List.setIfInBounds_toArray, List.set_cons_zero, List.set_cons_succ])
        refine rg_done (by kernel_rfl) ?_
        go_wp2_with fail
        go_ret
        exact ⟨by rw [hb.out]; rfl, by first | assumption | (apply Sat.drew; assumption)⟩
      have d0 : decide (x < 0) = false := by simp; omega
      by_cases hx16 : 16 ≤ x
      · have d1 : decide (16 ≤ x) = true := by simp [hx16]
        have hb := bad (by omega)
        clear bad good hlk hl0
        go_wp2_with fail
        refine rg_start rfl hs2 (fun wr0 hsr0 => ?_)
        refine rg_take (i := 0) (v := ?_) rfl (by kernel_rfl) (by kernel_rfl) (by kernel_rfl) (fun _ _ _ h => h) (by with_unfolding_all rfl) (by assumption) ?_ ?_
        rotate_left
        · intro w hSw; (first | (go_simp; done) | (go_simp; with_reducible rfl) | (go_simp; rfl))
        (try simp only [Act.put, List.setIfInBounds_toArray, List.set_cons_zero, List.set_cons_succ])
        refine rg_take (i := 1) (v := ?_) rfl (by kernel_rfl) (by kernel_rfl) (by kernel_rfl) (fun _ _ _ h => h) (by with_unfolding_all rfl) (by assumption) ?_ ?_
        rotate_left
        · intro w hSw; (first | (go_simp; done) | (go_simp; with_reducible rfl) | (go_simp; rfl))
        (try simp only [Act.put, List.setIfInBounds_toArray, List.set_cons_zero, List.set_cons_succ])
        refine rg_take (i := 2) (v := ?_) rfl (by kernel_rfl) (by kernel_rfl) (by kernel_rfl) (fun _ _ _ h => h) (by with_unfolding_all rfl) (by assumption) ?_ ?_
        rotate_left
        · intro w hSw; (first | (go_simp; done) | (go_simp; with_reducible rfl) | (go_simp; rfl))
        (try simp only [Act.put, List.setIfInBounds_toArray, List.set_cons_zero, List.set_cons_succ])
        refine rg_take (i := 3) (v := ?_) rfl (by kernel_rfl) (by kernel_rfl) (by kernel_rfl) (fun _ _ _ h => h) (by with_unfolding_all rfl) (by assumption) ?_ ?_
        rotate_left
        · intro w hSw; ((with_reducible apply yl_load); assumption; rfl; (repeat (first | assumption | ((with_reducible apply Cl.blkL); exact rfl) | with_reducible apply Cl.cons)); rfl)
        (try simp only [Act.put, List.setIfInBounds_toArray, List.set_cons_zero, List.set_cons_succ])
        refine rg_take (i := 4) (v := ?_) rfl (by kernel_rfl) (by kernel_rfl) (by kernel_rfl) (fun _ _ _ h => h) (by with_unfolding_all rfl) (by assumption) ?_ ?_
        rotate_left
        · intro w hSw; (first | (go_simp; done) | (go_simp; with_reducible rfl) | (go_simp; rfl))
        (try simp only [Act.put, List.setIfInBounds_toArray, List.set_cons_zero, List.set_cons_succ])
        refine rg_take (i := 5) (v := ?_) rfl (by kernel_rfl) (by kernel_rfl) (by kernel_rfl) (fun _ _ _ h => h) (by with_unfolding_all rfl) (by assumption) ?_ ?_
        rotate_left
        · intro w hSw; (first | (go_simp; done) | (go_simp; with_reducible rfl) | (go_simp; rfl))
        (try simp only [Act.put, List.setIfInBounds_toArray, List.set_cons_zero, List.set_cons_succ])
        refine rg_take (i := 6) (v := ?_) rfl (by kernel_rfl) (by kernel_rfl) (by kernel_rfl) (fun _ _ _ h => h) (by with_unfolding_all rfl) (by assumption) ?_ ?_
        rotate_left
        · intro w hSw; (first | (go_simp; done) | (go_simp; with_reducible rfl) | (go_simp; rfl))
        (try simp only [Act.put, List.setIfInBounds_toArray, List.set_cons_zero, List.set_cons_succ])
        refine rg_take (i := 7) (v := ?_) rfl (by kernel_rfl) (by kernel_rfl) (by kernel_rfl) (fun _ _ _ h => h) (by with_unfolding_all rfl) (by assumption) ?_ ?_
        rotate_left
        · intro w hSw; (first | (go_simp; done) | (go_simp; with_reducible rfl) | (go_simp; rfl))
        (try simp only [Act.put, List.setIfInBounds_toArray, List.set_cons_zero, List.set_cons_succ])
        refine rg_take (i := 8) (v := ?_) rfl (by kernel_rfl) (by kernel_rfl) (by kernel_rfl) (fun _ _ _ h => h) (by with_unfolding_all rfl) (by assumption) ?_ ?_
        rotate_left
        · intro w hSw; (first | (go_simp; done) | (go_simp; with_reducible rfl) | (go_simp; rfl))
        (try simp only [Act.put, List.setIfInBounds_toArray, List.set_cons_zero, List.set_cons_succ])
        refine rg_take (i := 9) (v := ?_) rfl (by kernel_rfl) (by kernel_rfl) (by kernel_rfl) (fun _ _ _ h => h) (by with_unfolding_all rfl) (by assumption) ?_ ?_
        rotate_left
        · intro w hSw; ((with_reducible apply yl_load); assumption; rfl; (repeat (first | assumption | ((with_reducible apply Cl.blkL); exact rfl) | with_reducible apply Cl.cons)); rfl)
        (try simp only [Act.put, List.setIfInBounds_toArray, List.set_cons_zero, List.set_cons_succ])
        refine rg_take (i := 10) (v := ?_) rfl (by kernel_rfl) (by kernel_rfl) (by kernel_rfl) (fun _ _ _ h => h) (by with_unfolding_all rfl) (by assumption) ?_ ?_
        rotate_left
        · intro w hSw; (first | (go_simp; done) | (go_simp; with_reducible rfl) | (go_simp; rfl))
        (try simp only [Act.put, List.setIfInBounds_toArray, List.set_cons_zero, List.set_cons_succ])
        refine rg_take (i := 11) (v := ?_) rfl (by kernel_rfl) (by kernel_rfl) (by kernel_rfl) (fun _ _ _ h => h) (by with_unfolding_all rfl) (by assumption) ?_ ?_
        rotate_left
        · intro w hSw; (first | (go_simp; done) | (go_simp; with_reducible rfl) | (go_simp; rfl))
        (try simp only [Act.put, List.setIfInBounds_toArray, List.set_cons_zero, List.set_cons_succ])
        refine rg_take (i := 12) (v := ?_) rfl (by kernel_rfl) (by kernel_rfl) (by kernel_rfl) (fun _ _ _ h => h) (by with_unfolding_all rfl) (by assumption) ?_ ?_
        rotate_left
        · intro w hSw; (first | (go_simp; done) | (go_simp; with_reducible rfl) | (go_simp; rfl))
        (try simp only [Act.put, List.setIfInBounds_toArray, List.set_cons_zero, List.set_cons_succ])
        refine rg_skip (i := 13) rfl (by kernel_rfl) (by kernel_rfl) (by kernel_rfl) (fun _ _ _ h => h) (by with_unfolding_all rfl) (by assumption) ?_
        (try simp only [Act.put, List.setIfInBounds_toArray, List.set_cons_zero, List.set_cons_succ])
        refine rg_skip (i := 14) rfl (by kernel_rfl) (by kernel_rfl) (by kernel_rfl) (fun _ _ _ h => h) (by with_unfolding_all rfl) (by assumption) ?_
        (try simp only [Act.put, List.setIfInBounds_toArray, List.set_cons_zero, List.set_cons_succ])
        refine rg_skip (i := 15) rfl (by kernel_rfl) (by kernel_rfl) (by kernel_rfl) (fun _ _ _ h => h) (by with_unfolding_all rfl) (by assumption) ?_
        (try simp only [Act.put, List.setIfInBounds_toArray, List.set_cons_zero, List.set_cons_succ])
        refine rg_skip (i := 16) rfl (by kernel_rfl) (by kernel_rfl) (by kernel_rfl) (fun _ _ _ h => h) (by with_unfolding_all rfl) (by assumption) ?_
        (try simp only [Act.put, List.setIfInBounds_toArray, List.set_cons_zero, List.set_cons_succ])
        refine rg_skip (i := 17) rfl (by kernel_rfl) (by kernel_rfl) (by kernel_rfl) (fun _ _ _ h => h) (by with_unfolding_all rfl) (by assumption) ?_
        (try simp only [Act.put, List.setIfInBounds_toArray, List.set_cons_zero, List.set_cons_succ])
        refine rg_skip (i := 18) rfl (by kernel_rfl) (by kernel_rfl) (by kernel_rfl) (fun _ _ _ h => h) (by with_unfolding_all rfl) (by assumption) ?_
        (try simp only [Act.put, List.setIfInBounds_toArray, List.set_cons_zero, List.set_cons_succ])
        refine rg_skip (i := 19) rfl (by kernel_rfl) (by kernel_rfl) (by kernel_rfl) (fun _ _ _ h => h) (by with_unfolding_all rfl) (by assumption) ?_
        (try simp only [Act.put, List.setIfInBounds_toArray, List.set_cons_zero, List.set_cons_succ])
        refine rg_skip (i := 20) rfl (by kernel_rfl) (by kernel_rfl) (by kernel_rfl) (fun _ _ _ h => h) (by with_unfolding_all rfl) (by assumption) ?_
        (try simp only [Act.put, List.setIfInBounds_toArray, List.set_cons_zero, List.set_cons_succ])
        refine rg_skip (i := 21) rfl (by kernel_rfl) (by kernel_rfl) (by kernel_rfl) (fun _ _ _ h => h) (by with_unfolding_all rfl) (by assumption) ?_
        (try simp only [Act.put, List.setIfInBounds_toArray, List.set_cons_zero, List.set_cons_succ])
        refine rg_skip (i := 22) rfl (by kernel_rfl) (by kernel_rfl) (by kernel_rfl) (fun _ _ _ h => h) (by with_unfolding_all rfl) (by assumption) ?_
        (try simp only [Act.put, List.setIfInBounds_toArray, List.set_cons_zero, List.set_cons_succ])
        refine rg_skip (i := 23) rfl (by kernel_rfl) (by kernel_rfl) (by kernel_rfl) (fun _ _ _ h => h) (by with_unfolding_all rfl) (by assumption) ?_
        (try simp only [Act.put, List.setIfInBounds_toArray, List.set_cons_zero, List.set_cons_succ])
        refine rg_skip (i := 24) rfl (by kernel_rfl) (by kernel_rfl) (by kernel_rfl) (fun _ _ _ h => h) (by with_unfolding_all rfl) (by assumption) ?_
        (try simp only [Act.put, List.setIfInBounds_toArray, List.set_cons_zero, List.set_cons_succ])
        refine rg_skip (i := 25) rfl (by kernel_rfl) (by kernel_rfl) (by kernel_rfl) (fun _ _ _ h => h) (by with_unfolding_all rfl) (by assumption) ?_
        (try simp only [Act.put, List.setIfInBounds_toArray, List.set_cons_zero, List.set_cons_succ])
        refine rg_skip (i := 26) rfl (by kernel_rfl) (by kernel_rfl) (by kernel_rfl) (fun _ _ _ h => h) (by with_unfolding_all rfl) (by assumption) ?_
        (try simp only [Act.put, List.setIfInBounds_toArray, List.set_cons_zero, List.set_cons_succ])
        refine rg_take (i := 27) (v := ?_) rfl (by kernel_rfl) (by kernel_rfl) (by kernel_rfl) (fun _ _ _ h => h) (by with_unfolding_all rfl) (by assumption) ?_ ?_
        rotate_left
        · intro w hSw; (first | (go_simp; done) | (go_simp; with_reducible rfl) | (go_simp; rfl))
        (try simp only [Act.put, List.setIfInBounds_toArray, List.set_cons_zero, List.set_cons_succ])
        refine rg_done (by kernel_rfl) ?_
        go_wp2_with fail
        go_ret
        exact ⟨by rw [hb.out]; rfl, by first | assumption | (apply Sat.drew; assumption)⟩
      have d1 : decide (16 ≤ x) = false := by simp; omega
      by_cases hk0 : k = 0
      · have d2 : decide ((0 : Int) < (k : Int)) = false := by simp; omega
        have d2' : decide (0 < k) = false := by simp; omega
        have hg := good (by have := hl0 hk0; omega)
        have hk0' : ¬ 0 < k := by omega
        clear bad good hlk hl0 hk0
        go_wp2_with fail
        refine rg_start rfl hs2 (fun wr0 hsr0 => ?_)
        refine rg_take (i := 0) (v := ?_) rfl (by kernel_rfl) (by kernel_rfl) (by kernel_rfl) (fun _ _ _ h => h) (by with_unfolding_all rfl) (by assumption) ?_ ?_
        rotate_left
        · intro w hSw; (first | (go_simp; done) | (go_simp; with_reducible rfl) | (go_simp; rfl))
        (try simp only [Act.put, List.setIfInBounds_toArray, List.set_cons_zero, List.set_cons_succ])
        refine rg_take (i := 1) (v := ?_) rfl (by kernel_rfl) (by kernel_rfl) (by kernel_rfl) (fun _ _ _ h => h) (by with_unfolding_all rfl) (by assumption) ?_ ?_
        rotate_left
        · intro w hSw; (first | (go_simp; done) | (go_simp; with_reducible rfl) | (go_simp; rfl))
        (try simp only [Act.put, List.setIfInBounds_toArray, List.set_cons_zero, List.set_cons_succ])
        refine rg_take (i := 2) (v := ?_) rfl (by kernel_rfl) (by kernel_rfl) (by kernel_rfl) (fun _ _ _ h => h) (by with_unfolding_all rfl) (by assumption) ?_ ?_
        rotate_left
        · intro w hSw; (first | (go_simp; done) | (go_simp; with_reducible rfl) | (go_simp; rfl))
        (try simp only [Act.put, List.setIfInBounds_toArray, List.set_cons_zero, List.set_cons_succ])
        refine rg_take (i := 3) (v := ?_) rfl (by kernel_rfl) (by kernel_rfl) (by kernel_rfl) (fun _ _ _ h => h) (by with_unfolding_all rfl) (by assumption) ?_ ?_
        rotate_left
        · intro w hSw; ((with_reducible apply yl_load); assumption; rfl; (repeat (first | assumption | ((with_reducible apply Cl.blkL); exact rfl) | with_reducible apply Cl.cons)); rfl)
        (try simp only [Act.put, List.setIfInBounds_toArray, List.set_cons_zero, List.set_cons_succ])
        refine rg_take (i := 4) (v := ?_) rfl (by kernel_rfl) (by kernel_rfl) (by kernel_rfl) (fun _ _ _ h => h) (by with_unfolding_all rfl) (by assumption) ?_ ?_
        rotate_left
        · intro w hSw; (first | (go_simp; done) | (go_simp; with_reducible rfl) | (go_simp; rfl))
        (try simp only [Act.put, List.setIfInBounds_toArray, List.set_cons_zero, List.set_cons_succ])
        refine rg_take (i := 5) (v := ?_) rfl (by kernel_rfl) (by kernel_rfl) (by kernel_rfl) (fun _ _ _ h => h) (by with_unfolding_all rfl) (by assumption) ?_ ?_
        rotate_left
        · intro w hSw; (first | (go_simp; done) | (go_simp; with_reducible rfl) | (go_simp; rfl))
        (try simp only [Act.put, List.setIfInBounds_toArray, List.set_cons_zero, List.set_cons_succ])
        refine rg_take (i := 6) (v := ?_) rfl (by kernel_rfl) (by kernel_rfl) (by kernel_rfl) (fun _ _ _ h => h) (by with_unfolding_all rfl) (by assumption) ?_ ?_
        rotate_left
        · intro w hSw; (first | (go_simp; done) | (go_simp; with_reducible rfl) | (go_simp; rfl))
        (try simp only [Act.put, List.setIfInBounds_toArray, List.set_cons_zero, List.set_cons_succ])
        refine rg_take (i := 7) (v := ?_) rfl (by kernel_rfl) (by kernel_rfl) (by kernel_rfl) (fun _ _ _ h => h) (by with_unfolding_all rfl) (by assumption) ?_ ?_
        rotate_left
        · intro w hSw; (first | (go_simp; done) | (go_simp; with_reducible rfl) | (go_simp; rfl))
        (try simp only [Act.put, List.setIfInBounds_toArray, List.set_cons_zero, List.set_cons_succ])
        refine rg_take (i := 8) (v := ?_) rfl (by kernel_rfl) (by kernel_rfl) (by kernel_rfl) (fun _ _ _ h => h) (by with_unfolding_all rfl) (by assumption) ?_ ?_
        rotate_left
        · intro w hSw; (first | (go_simp; done) | (go_simp; with_reducible rfl) | (go_simp; rfl))
        (try simp only [Act.put, List.setIfInBounds_toArray, List.set_cons_zero, List.set_cons_succ])
        refine rg_take (i := 9) (v := ?_) rfl (by kernel_rfl) (by kernel_rfl) (by kernel_rfl) (fun _ _ _ h => h) (by with_unfolding_all rfl) (by assumption) ?_ ?_
        rotate_left
        · intro w hSw; ((with_reducible apply yl_load); assumption; rfl; (repeat (first | assumption | ((with_reducible apply Cl.blkL); exact rfl) | with_reducible apply Cl.cons)); rfl)
        (try simp only [Act.put, List.setIfInBounds_toArray, List.set_cons_zero, List.set_cons_succ])
        refine rg_take (i := 10) (v := ?_) rfl (by kernel_rfl) (by kernel_rfl) (by kernel_rfl) (fun _ _ _ h => h) (by with_unfolding_all rfl) (by assumption) ?_ ?_
        rotate_left
        · intro w hSw; (first | (go_simp; done) | (go_simp; with_reducible rfl) | (go_simp; rfl))
        (try simp only [Act.put, List.setIfInBounds_toArray, List.set_cons_zero, List.set_cons_succ])
        refine rg_take (i := 11) (v := ?_) rfl (by kernel_rfl) (by kernel_rfl) (by kernel_rfl) (fun _ _ _ h => h) (by with_unfolding_all rfl) (by assumption) ?_ ?_
        rotate_left
        · intro w hSw; (first | (go_simp; done) | (go_simp; with_reducible rfl) | (go_simp; rfl))
        (try simp only [Act.put, List.setIfInBounds_toArray, List.set_cons_zero, List.set_cons_succ])
        refine rg_take (i := 12) (v := ?_) rfl (by kernel_rfl) (by kernel_rfl) (by kernel_rfl) (fun _ _ _ h => h) (by with_unfolding_all rfl) (by assumption) ?_ ?_
        rotate_left
        · intro w hSw; (first | (go_simp; done) | (go_simp; with_reducible rfl) | (go_simp; rfl))
        (try simp only [Act.put, List.setIfInBounds_toArray, List.set_cons_zero, List.set_cons_succ])
        refine rg_take (i := 13) (v := ?_) rfl (by kernel_rfl) (by kernel_rfl) (by kernel_rfl) (fun _ _ _ h => h) (by with_unfolding_all rfl) (by assumption) ?_ ?_
        rotate_left
        · intro w hSw; (first | (go_simp; done) | (go_simp; with_reducible rfl) | (go_simp; rfl))
        (try simp only [Act.put, List.setIfInBounds_toArray, List.set_cons_zero, List.set_cons_succ])
        refine rg_take (i := 14) (v := ?_) rfl (by kernel_rfl) (by kernel_rfl) (by kernel_rfl) (fun _ _ _ h => h) (by with_unfolding_all rfl) (by assumption) ?_ ?_
        rotate_left
        · intro w hSw; (first | (go_simp; done) | (go_simp; with_reducible rfl) | (go_simp; rfl))
        (try simp only [Act.put, List.setIfInBounds_toArray, List.set_cons_zero, List.set_cons_succ])
        refine rg_take (i := 15) (v := ?_) rfl (by kernel_rfl) (by kernel_rfl) (by kernel_rfl) (fun _ _ _ h => h) (by with_unfolding_all rfl) (by assumption) ?_ ?_
        rotate_left
        · intro w hSw; (first | (go_simp; done) | (go_simp; with_reducible rfl) | (go_simp; rfl))
        (try simp only [Act.put, List.setIfInBounds_toArray, List.set_cons_zero, List.set_cons_succ])
        refine rg_skip (i := 16) rfl (by kernel_rfl) (by kernel_rfl) (by kernel_rfl) (fun _ _ _ h => h) (by with_unfolding_all rfl) (by assumption) ?_
        (try simp only [Act.put, List.setIfInBounds_toArray, List.set_cons_zero, List.set_cons_succ])
        refine rg_skip (i := 17) rfl (by kernel_rfl) (by kernel_rfl) (by kernel_rfl) (fun _ _ _ h => h) (by with_unfolding_all rfl) (by assumption) ?_
        (try simp only [Act.put, List.setIfInBounds_toArray, List.set_cons_zero, List.set_cons_succ])
        refine rg_skip (i := 18) rfl (by kernel_rfl) (by kernel_rfl) (by kernel_rfl) (fun _ _ _ h => h) (by with_unfolding_all rfl) (by assumption) ?_
        (try simp only [Act.put, List.setIfInBounds_toArray, List.set_cons_zero, List.set_cons_succ])
        refine rg_skip (i := 19) rfl (by kernel_rfl) (by kernel_rfl) (by kernel_rfl) (fun _ _ _ h => h) (by with_unfolding_all rfl) (by assumption) ?_
        (try simp only [Act.put, List.setIfInBounds_toArray, List.set_cons_zero, List.set_cons_succ])
        refine rg_skip (i := 20) rfl (by kernel_rfl) (by kernel_rfl) (by kernel_rfl) (fun _ _ _ h => h) (by with_unfolding_all rfl) (by assumption) ?_
        (try simp only [Act.put, List.setIfInBounds_toArray, List.set_cons_zero, List.set_cons_succ])
        refine rg_skip (i := 21) rfl (by kernel_rfl) (by kernel_rfl) (by kernel_rfl) (fun _ _ _ h => h) (by with_unfolding_all rfl) (by assumption) ?_
        (try simp only [Act.put, List.setIfInBounds_toArray, List.set_cons_zero, List.set_cons_succ])
        refine rg_skip (i := 22) rfl (by kernel_rfl) (by kernel_rfl) (by kernel_rfl) (fun _ _ _ h => h) (by with_unfolding_all rfl) (by assumption) ?_
        (try simp only [Act.put, List.setIfInBounds_toArray, List.set_cons_zero, List.set_cons_succ])
        refine rg_skip (i := 23) rfl (by kernel_rfl) (by kernel_rfl) (by kernel_rfl) (fun _ _ _ h => h) (by with_unfolding_all rfl) (by assumption) ?_
        (try simp only [Act.put, List.setIfInBounds_toArray, List.set_cons_zero, List.set_cons_succ])
        refine rg_skip (i := 24) rfl (by kernel_rfl) (by kernel_rfl) (by kernel_rfl) (fun _ _ _ h => h) (by with_unfolding_all rfl) (by assumption) ?_
        (try simp only [Act.put, List.setIfInBounds_toArray, List.set_cons_zero, List.set_cons_succ])
        refine rg_skip (i := 25) rfl (by kernel_rfl) (by kernel_rfl) (by kernel_rfl) (fun _ _ _ h => h) (by with_unfolding_all rfl) (by assumption) ?_
        (try simp only [Act.put, List.setIfInBounds_toArray, List.set_cons_zero, List.set_cons_succ])
        refine rg_take (i := 26) (v := ?_) rfl (by kernel_rfl) (by kernel_rfl) (by kernel_rfl) (fun _ _ _ h => h) (by with_unfolding_all rfl) (by assumption) ?_ ?_
        rotate_left
        · intro w hSw; (first | (go_simp; done) | (go_simp; with_reducible rfl) | (go_simp; rfl))
        (try simp only [Act.put, List.setIfInBounds_toArray, List.set_cons_zero, List.set_cons_succ])
        refine rg_take (i := 27) (v := ?_) rfl (by kernel_rfl) (by kernel_rfl) (by kernel_rfl) (fun _ _ _ h => h) (by with_unfolding_all rfl) (by assumption) ?_ ?_
        rotate_left
        · intro w hSw; (first | (go_simp; done) | (go_simp; with_reducible rfl) | (go_simp; rfl))
        (try simp only [Act.put, List.setIfInBounds_toArray, List.set_cons_zero, List.set_cons_succ])
        refine rg_done (by kernel_rfl) ?_
        go_wp2_with fail
        go_roundw
        case rel => exact ⟨k + 1, x, by go_num, by omega, by omega, by omega, fun _ => by rw [Nat.add_sub_cancel]; exact Hx1.out, hg.out, by first | assumption | (apply Sat.drew; assumption)⟩
        case measure => simp [intOf]; omega
      have d2 : decide ((0 : Int) < (k : Int)) = true := by simp; omega
      have d2' : decide (0 < k) = true := by simp; omega
      obtain ⟨j, hj⟩ : ∃ j, j = k - 1 := ⟨_, rfl⟩
      have hjn : j < n := by omega
      have hlk := hlk (by omega)
      rw [← hj] at hlk
      have cl := hA.elt (I8_at xs j last hlk)
      have i2 : IntKind.i64.wrap ((k : Int) - 1) = (j : Int) := by rw [show (k : Int) - 1 = (j : Int) from by omega]; exact IntWalk.i64_in _ (by omega)
      have i3 : (0 : Int) ≤ (j : Int) := by omega
      have i4 : (j : Int) < (n : Int) := by omega
      clear hlk hl0 hj
      by_cases hlx : x ≤ last
      · have d3 : decide (x ≤ last) = true := by simp [hlx]
        have hb := bad (by omega)
        clear bad good
        go_wp2_with fail
        refine rg_start rfl hs2 (fun wr0 hsr0 => ?_)
        refine rg_take (i := 0) (v := ?_) rfl (by kernel_rfl) (by kernel_rfl) (by kernel_rfl) (fun _ _ _ h => h) (by with_unfolding_all rfl) (by assumption) ?_ ?_
        rotate_left
        · intro w hSw; (first | (go_simp; done) | (go_simp; with_reducible rfl) | (go_simp; rfl))
        (try simp only [Act.put, List.setIfInBounds_toArray, List.set_cons_zero, List.set_cons_succ])
        refine rg_take (i := 1) (v := ?_) rfl (by kernel_rfl) (by kernel_rfl) (by kernel_rfl) (fun _ _ _ h => h) (by with_unfolding_all rfl) (by assumption) ?_ ?_
        rotate_left
        · intro w hSw; (first | (go_simp; done) | (go_simp; with_reducible rfl) | (go_simp; rfl))
        (try simp only [Act.put, List.setIfInBounds_toArray, List.set_cons_zero, List.set_cons_succ])
        refine rg_take (i := 2) (v := ?_) rfl (by kernel_rfl) (by kernel_rfl) (by kernel_rfl) (fun _ _ _ h => h) (by with_unfolding_all rfl) (by assumption) ?_ ?_
        rotate_left
        · intro w hSw; (first | (go_simp; done) | (go_simp; with_reducible rfl) | (go_simp; rfl))
        (try simp only [Act.put, List.setIfInBounds_toArray, List.set_cons_zero, List.set_cons_succ])
        refine rg_take (i := 3) (v := ?_) rfl (by kernel_rfl) (by kernel_rfl) (by kernel_rfl) (fun _ _ _ h => h) (by with_unfolding_all rfl) (by assumption) ?_ ?_
        rotate_left
        · intro w hSw; ((with_reducible apply yl_load); assumption; rfl; (repeat (first | assumption | ((with_reducible apply Cl.blkL); exact rfl) | with_reducible apply Cl.cons)); rfl)
        (try simp only [Act.put, List.setIfInBounds_toArray, List.set_cons_zero, List.set_cons_succ])
        refine rg_take (i := 4) (v := ?_) rfl (by kernel_rfl) (by kernel_rfl) (by kernel_rfl) (fun _ _ _ h => h) (by with_unfolding_all rfl) (by assumption) ?_ ?_
        rotate_left
        · intro w hSw; (first | (go_simp; done) | (go_simp; with_reducible rfl) | (go_simp; rfl))
        (try simp only [Act.put, List.setIfInBounds_toArray, List.set_cons_zero, List.set_cons_succ])
        refine rg_take (i := 5) (v := ?_) rfl (by kernel_rfl) (by kernel_rfl) (by kernel_rfl) (fun _ _ _ h => h) (by with_unfolding_all rfl) (by assumption) ?_ ?_
        rotate_left
        · intro w hSw; (first | (go_simp; done) | (go_simp; with_reducible rfl) | (go_simp; rfl))
        (try simp only [Act.put, List.setIfInBounds_toArray, List.set_cons_zero, List.set_cons_succ])
        refine rg_take (i := 6) (v := ?_) rfl (by kernel_rfl) (by kernel_rfl) (by kernel_rfl) (fun _ _ _ h => h) (by with_unfolding_all rfl) (by assumption) ?_ ?_
        rotate_left
        · intro w hSw; (first | (go_simp; done) | (go_simp; with_reducible rfl) | (go_simp; rfl))
        (try simp only [Act.put, List.setIfInBounds_toArray, List.set_cons_zero, List.set_cons_succ])
        refine rg_take (i := 7) (v := ?_) rfl (by kernel_rfl) (by kernel_rfl) (by kernel_rfl) (fun _ _ _ h => h) (by with_unfolding_all rfl) (by assumption) ?_ ?_
        rotate_left
        · intro w hSw; (first | (go_simp; done) | (go_simp; with_reducible rfl) | (go_simp; rfl))
        (try simp only [Act.put, List.setIfInBounds_toArray, List.set_cons_zero, List.set_cons_succ])
        refine rg_take (i := 8) (v := ?_) rfl (by kernel_rfl) (by kernel_rfl) (by kernel_rfl) (fun _ _ _ h => h) (by with_unfolding_all rfl) (by assumption) ?_ ?_
        rotate_left
        · intro w hSw; (first | (go_simp; done) | (go_simp; with_reducible rfl) | (go_simp; rfl))
        (try simp only [Act.put, List.setIfInBounds_toArray, List.set_cons_zero, List.set_cons_succ])
        refine rg_take (i := 9) (v := ?_) rfl (by kernel_rfl) (by kernel_rfl) (by kernel_rfl) (fun _ _ _ h => h) (by with_unfolding_all rfl) (by assumption) ?_ ?_
        rotate_left
        · intro w hSw; ((with_reducible apply yl_load); assumption; rfl; (repeat (first | assumption | ((with_reducible apply Cl.blkL); exact rfl) | with_reducible apply Cl.cons)); rfl)
        (try simp only [Act.put, List.setIfInBounds_toArray, List.set_cons_zero, List.set_cons_succ])
        refine rg_take (i := 10) (v := ?_) rfl (by kernel_rfl) (by kernel_rfl) (by kernel_rfl) (fun _ _ _ h => h) (by with_unfolding_all rfl) (by assumption) ?_ ?_
        rotate_left
        · intro w hSw; (first | (go_simp; done) | (go_simp; with_reducible rfl) | (go_simp; rfl))
        (try simp only [Act.put, List.setIfInBounds_toArray, List.set_cons_zero, List.set_cons_succ])
        refine rg_take (i := 11) (v := ?_) rfl (by kernel_rfl) (by kernel_rfl) (by kernel_rfl) (fun _ _ _ h => h) (by with_unfolding_all rfl) (by assumption) ?_ ?_
        rotate_left
        · intro w hSw; (first | (go_simp; done) | (go_simp; with_reducible rfl) | (go_simp; rfl))
        (try simp only [Act.put, List.setIfInBounds_toArray, List.set_cons_zero, List.set_cons_succ])
        refine rg_take (i := 12) (v := ?_) rfl (by kernel_rfl) (by kernel_rfl) (by kernel_rfl) (fun _ _ _ h => h) (by with_unfolding_all rfl) (by assumption) ?_ ?_
        rotate_left
        · intro w hSw; (first | (go_simp; done) | (go_simp; with_reducible rfl) | (go_simp; rfl))
        (try simp only [Act.put, List.setIfInBounds_toArray, List.set_cons_zero, List.set_cons_succ])
        refine rg_take (i := 13) (v := ?_) rfl (by kernel_rfl) (by kernel_rfl) (by kernel_rfl) (fun _ _ _ h => h) (by with_unfolding_all rfl) (by assumption) ?_ ?_
        rotate_left
        · intro w hSw; (first | (go_simp; done) | (go_simp; with_reducible rfl) | (go_simp; rfl))
        (try simp only [Act.put, List.setIfInBounds_toArray, List.set_cons_zero, List.set_cons_succ])
        refine rg_take (i := 14) (v := ?_) rfl (by kernel_rfl) (by kernel_rfl) (by kernel_rfl) (fun _ _ _ h => h) (by with_unfolding_all rfl) (by assumption) ?_ ?_
        rotate_left
        · intro w hSw; (first | (go_simp; done) | (go_simp; with_reducible rfl) | (go_simp; rfl))
        (try simp only [Act.put, List.setIfInBounds_toArray, List.set_cons_zero, List.set_cons_succ])
        refine rg_take (i := 15) (v := ?_) rfl (by kernel_rfl) (by kernel_rfl) (by kernel_rfl) (fun _ _ _ h => h) (by with_unfolding_all rfl) (by assumption) ?_ ?_
        rotate_left
        · intro w hSw; (first | (go_simp; done) | (go_simp; with_reducible rfl) | (go_simp; rfl))
        (try simp only [Act.put, List.setIfInBounds_toArray, List.set_cons_zero, List.set_cons_succ])
        refine rg_take (i := 16) (v := ?_) rfl (by kernel_rfl) (by kernel_rfl) (by kernel_rfl) (fun _ _ _ h => h) (by with_unfolding_all rfl) (by assumption) ?_ ?_
        rotate_left
        · intro w hSw; (first | (go_simp; done) | (go_simp; with_reducible rfl) | (go_simp; rfl))
        (try simp only [Act.put, List.setIfInBounds_toArray, List.set_cons_zero, List.set_cons_succ])
        refine rg_take (i := 17) (v := ?_) rfl (by kernel_rfl) (by kernel_rfl) (by kernel_rfl) (fun _ _ _ h => h) (by with_unfolding_all rfl) (by assumption) ?_ ?_
        rotate_left
        · intro w hSw; (first | (go_simp; done) | (go_simp; with_reducible rfl) | (go_simp; rfl))
        (try simp only [Act.put, List.setIfInBounds_toArray, List.set_cons_zero, List.set_cons_succ])
        refine rg_take (i := 18) (v := ?_) rfl (by kernel_rfl) (by kernel_rfl) (by kernel_rfl) (fun _ _ _ h => h) (by with_unfolding_all rfl) (by assumption) ?_ ?_
        rotate_left
        · intro w hSw; (first | (go_simp; done) | (go_simp; with_reducible rfl) | (go_simp; rfl))
        (try simp only [Act.put, List.setIfInBounds_toArray, List.set_cons_zero, List.set_cons_succ])
        refine rg_take (i := 19) (v := ?_) rfl (by kernel_rfl) (by kernel_rfl) (by kernel_rfl) (fun _ _ _ h => h) (by with_unfolding_all rfl) (by assumption) ?_ ?_
        rotate_left
        · intro w hSw; ((with_reducible apply yl_load); assumption; rfl; (repeat (first | assumption | ((with_reducible apply Cl.blkL); exact rfl) | with_reducible apply Cl.cons)); rfl)
        (try simp only [Act.put, List.setIfInBounds_toArray, List.set_cons_zero, List.set_cons_succ])
        refine rg_take (i := 20) (v := ?_) rfl (by kernel_rfl) (by kernel_rfl) (by kernel_rfl) (fun _ _ _ h => h) (by with_unfolding_all rfl) (by assumption) ?_ ?_
        rotate_left
        · intro w hSw; (first | (go_simp; done) | (go_simp; with_reducible rfl) | (go_simp; rfl))
        (try simp only [Act.put, List.setIfInBounds_toArray, List.set_cons_zero, List.set_cons_succ])
        refine rg_take (i := 21) (v := ?_) rfl (by kernel_rfl) (by kernel_rfl) (by kernel_rfl) (fun _ _ _ h => h) (by with_unfolding_all rfl) (by assumption) ?_ ?_
        rotate_left
        · intro w hSw; (first | (go_simp; done) | (go_simp; with_reducible rfl) | (go_simp; rfl))
        (try simp only [Act.put, List.setIfInBounds_toArray, List.set_cons_zero, List.set_cons_succ])
        refine rg_take (i := 22) (v := ?_) rfl (by kernel_rfl) (by kernel_rfl) (by kernel_rfl) (fun _ _ _ h => h) (by with_unfolding_all rfl) (by assumption) ?_ ?_
        rotate_left
        · intro w hSw; (first | (go_simp; done) | (go_simp; with_reducible rfl) | (go_simp; rfl))
        (try simp only [Act.put, List.setIfInBounds_toArray, List.set_cons_zero, List.set_cons_succ])
        refine rg_take (i := 23) (v := ?_) rfl (by kernel_rfl) (by kernel_rfl) (by kernel_rfl) (fun _ _ _ h => h) (by with_unfolding_all rfl) (by assumption) ?_ ?_
        rotate_left
        · intro w hSw; (first | (go_simp; done) | (go_simp; with_reducible rfl) | (go_simp; rfl))
        (try simp only [Act.put, List.setIfInBounds_toArray, List.set_cons_zero, List.set_cons_succ])
        refine rg_take (i := 24) (v := ?_) rfl (by kernel_rfl) (by kernel_rfl) (by kernel_rfl) (fun _ _ _ h => h) (by with_unfolding_all rfl) (by assumption) ?_ ?_
        rotate_left
        · intro w hSw; ((with_reducible apply yl_load); assumption; rfl; (repeat (first | assumption | ((with_reducible apply Cl.blkL); exact rfl) | with_reducible apply Cl.cons)); rfl)
        (try simp only [Act.put, List.setIfInBounds_toArray, List.set_cons_zero, List.set_cons_succ])
        refine rg_take (i := 25) (v := ?_) rfl (by kernel_rfl) (by kernel_rfl) (by kernel_rfl) (fun _ _ _ h => h) (by with_unfolding_all rfl) (by assumption) ?_ ?_
        rotate_left
        · intro w hSw; (first | (go_simp; done) | (go_simp; with_reducible rfl) | (go_simp; rfl))
        (try simp only [Act.put, List.setIfInBounds_toArray, List.set_cons_zero, List.set_cons_succ])
        refine rg_take (i := 26) (v := ?_) rfl (by kernel_rfl) (by kernel_rfl) (by kernel_rfl) (fun _ _ _ h => h) (by with_unfolding_all rfl) (by assumption) ?_ ?_
        rotate_left
        · intro w hSw; (first | (go_simp; done) | (go_simp; with_reducible rfl) | (go_simp; rfl))
        (try simp only [Act.put, List.setIfInBounds_toArray, List.set_cons_zero, List.set_cons_succ])
        refine rg_take (i := 27) (v := ?_) rfl (by kernel_rfl) (by kernel_rfl) (by kernel_rfl) (fun _ _ _ h => h) (by with_unfolding_all rfl) (by assumption) ?_ ?_
        rotate_left
        · intro w hSw; (first | (go_simp; done) | (go_simp; with_reducible rfl) | (go_simp; rfl))
        (try simp only [Act.put, List.setIfInBounds_toArray, List.set_cons_zero, List.set_cons_succ])
        refine rg_done (by kernel_rfl) ?_
        go_wp2_with fail
        go_ret
        exact ⟨by rw [hb.out]; rfl, by first | assumption | (apply Sat.drew; assumption)⟩
      · have d3 : decide (x ≤ last) = false := by simp; omega
        have hg := good (by omega)
        clear bad good
        go_wp2_with fail
        refine rg_start rfl hs2 (fun wr0 hsr0 => ?_)
        refine rg_take (i := 0) (v := ?_) rfl (by kernel_rfl) (by kernel_rfl) (by kernel_rfl) (fun _ _ _ h => h) (by with_unfolding_all rfl) (by assumption) ?_ ?_
        rotate_left
        · intro w hSw; (first | (go_simp; done) | (go_simp; with_reducible rfl) | (go_simp; rfl))
        (try simp only [Act.put, List.setIfInBounds_toArray, List.set_cons_zero, List.set_cons_succ])
        refine rg_take (i := 1) (v := ?_) rfl (by kernel_rfl) (by kernel_rfl) (by kernel_rfl) (fun _ _ _ h => h) (by with_unfolding_all rfl) (by assumption) ?_ ?_
        rotate_left
        · intro w hSw; (first | (go_simp; done) | (go_simp; with_reducible rfl) | (go_simp; rfl))
        (try simp only [Act.put, List.setIfInBounds_toArray, List.set_cons_zero, List.set_cons_succ])
        refine rg_take (i := 2) (v := ?_) rfl (by kernel_rfl) (by kernel_rfl) (by kernel_rfl) (fun _ _ _ h => h) (by with_unfolding_all rfl) (by assumption) ?_ ?_
        rotate_left
        · intro w hSw; (first | (go_simp; done) | (go_simp; with_reducible rfl) | (go_simp; rfl))
        (try simp only [Act.put, List.setIfInBounds_toArray, List.set_cons_zero, List.set_cons_succ])
        refine rg_take (i := 3) (v := ?_) rfl (by kernel_rfl) (by kernel_rfl) (by kernel_rfl) (fun _ _ _ h => h) (by with_unfolding_all rfl) (by assumption) ?_ ?_
        rotate_left
        · intro w hSw; ((with_reducible apply yl_load); assumption; rfl; (repeat (first | assumption | ((with_reducible apply Cl.blkL); exact rfl) | with_reducible apply Cl.cons)); rfl)
        (try simp only [Act.put, List.setIfInBounds_toArray, List.set_cons_zero, List.set_cons_succ])
        refine rg_take (i := 4) (v := ?_) rfl (by kernel_rfl) (by kernel_rfl) (by kernel_rfl) (fun _ _ _ h => h) (by with_unfolding_all rfl) (by assumption) ?_ ?_
        rotate_left
        · intro w hSw; (first | (go_simp; done) | (go_simp; with_reducible rfl) | (go_simp; rfl))
        (try simp only [Act.put, List.setIfInBounds_toArray, List.set_cons_zero, List.set_cons_succ])
        refine rg_take (i := 5) (v := ?_) rfl (by kernel_rfl) (by kernel_rfl) (by kernel_rfl) (fun _ _ _ h => h) (by with_unfolding_all rfl) (by assumption) ?_ ?_
        rotate_left
        · intro w hSw; (first | (go_simp; done) | (go_simp; with_reducible rfl) | (go_simp; rfl))
        (try simp only [Act.put, List.setIfInBounds_toArray, List.set_cons_zero, List.set_cons_succ])
        refine rg_take (i := 6) (v := ?_) rfl (by kernel_rfl) (by kernel_rfl) (by kernel_rfl) (fun _ _ _ h => h) (by with_unfolding_all rfl) (by assumption) ?_ ?_
        rotate_left
        · intro w hSw; (first | (go_simp; done) | (go_simp; with_reducible rfl) | (go_simp; rfl))
        (try simp only [Act.put, List.setIfInBounds_toArray, List.set_cons_zero, List.set_cons_succ])
        refine rg_take (i := 7) (v := ?_) rfl (by kernel_rfl) (by kernel_rfl) (by kernel_rfl) (fun _ _ _ h => h) (by with_unfolding_all rfl) (by assumption) ?_ ?_
        rotate_left
        · intro w hSw; (first | (go_simp; done) | (go_simp; with_reducible rfl) | (go_simp; rfl))
        (try simp only [Act.put, List.setIfInBounds_toArray, List.set_cons_zero, List.set_cons_succ])
        refine rg_take (i := 8) (v := ?_) rfl (by kernel_rfl) (by kernel_rfl) (by kernel_rfl) (fun _ _ _ h => h) (by with_unfolding_all rfl) (by assumption) ?_ ?_
        rotate_left
        · intro w hSw; (first | (go_simp; done) | (go_simp; with_reducible rfl) | (go_simp; rfl))
        (try simp only [Act.put, List.setIfInBounds_toArray, List.set_cons_zero, List.set_cons_succ])
        refine rg_take (i := 9) (v := ?_) rfl (by kernel_rfl) (by kernel_rfl) (by kernel_rfl) (fun _ _ _ h => h) (by with_unfolding_all rfl) (by assumption) ?_ ?_
        rotate_left
        · intro w hSw; ((with_reducible apply yl_load); assumption; rfl; (repeat (first | assumption | ((with_reducible apply Cl.blkL); exact rfl) | with_reducible apply Cl.cons)); rfl)
        (try simp only [Act.put, List.setIfInBounds_toArray, List.set_cons_zero, List.set_cons_succ])
        refine rg_take (i := 10) (v := ?_) rfl (by kernel_rfl) (by kernel_rfl) (by kernel_rfl) (fun _ _ _ h => h) (by with_unfolding_all rfl) (by assumption) ?_ ?_
        rotate_left
        · intro w hSw; (first | (go_simp; done) | (go_simp; with_reducible rfl) | (go_simp; rfl))
        (try simp only [Act.put, List.setIfInBounds_toArray, List.set_cons_zero, List.set_cons_succ])
        refine rg_take (i := 11) (v := ?_) rfl (by kernel_rfl) (by kernel_rfl) (by kernel_rfl) (fun _ _ _ h => h) (by with_unfolding_all rfl) (by assumption) ?_ ?_
        rotate_left
        · intro w hSw; (first | (go_simp; done) | (go_simp; with_reducible rfl) | (go_simp; rfl))
        (try simp only [Act.put, List.setIfInBounds_toArray, List.set_cons_zero, List.set_cons_succ])
        refine rg_take (i := 12) (v := ?_) rfl (by kernel_rfl) (by kernel_rfl) (by kernel_rfl) (fun _ _ _ h => h) (by with_unfolding_all rfl) (by assumption) ?_ ?_
        rotate_left
        · intro w hSw; (first | (go_simp; done) | (go_simp; with_reducible rfl) | (go_simp; rfl))
        (try simp only [Act.put, List.setIfInBounds_toArray, List.set_cons_zero, List.set_cons_succ])
        refine rg_take (i := 13) (v := ?_) rfl (by kernel_rfl) (by kernel_rfl) (by kernel_rfl) (fun _ _ _ h => h) (by with_unfolding_all rfl) (by assumption) ?_ ?_
        rotate_left
        · intro w hSw; (first | (go_simp; done) | (go_simp; with_reducible rfl) | (go_simp; rfl))
        (try simp only [Act.put, List.setIfInBounds_toArray, List.set_cons_zero, List.set_cons_succ])
        refine rg_take (i := 14) (v := ?_) rfl (by kernel_rfl) (by kernel_rfl) (by kernel_rfl) (fun _ _ _ h => h) (by with_unfolding_all rfl) (by assumption) ?_ ?_
        rotate_left
        · intro w hSw; (first | (go_simp; done) | (go_simp; with_reducible rfl) | (go_simp; rfl))
        (try simp only [Act.put, List.setIfInBounds_toArray, List.set_cons_zero, List.set_cons_succ])
        refine rg_take (i := 15) (v := ?_) rfl (by kernel_rfl) (by kernel_rfl) (by kernel_rfl) (fun _ _ _ h => h) (by with_unfolding_all rfl) (by assumption) ?_ ?_
        rotate_left
        · intro w hSw; (first | (go_simp; done) | (go_simp; with_reducible rfl) | (go_simp; rfl))
        (try simp only [Act.put, List.setIfInBounds_toArray, List.set_cons_zero, List.set_cons_succ])
        refine rg_take (i := 16) (v := ?_) rfl (by kernel_rfl) (by kernel_rfl) (by kernel_rfl) (fun _ _ _ h => h) (by with_unfolding_all rfl) (by assumption) ?_ ?_
        rotate_left
        · intro w hSw; (first | (go_simp; done) | (go_simp; with_reducible rfl) | (go_simp; rfl))
        (try simp only [Act.put, List.setIfInBounds_toArray, List.set_cons_zero, List.set_cons_succ])
        refine rg_take (i := 17) (v := ?_) rfl (by kernel_rfl) (by kernel_rfl) (by kernel_rfl) (fun _ _ _ h => h) (by with_unfolding_all rfl) (by assumption) ?_ ?_
        rotate_left
        · intro w hSw; (first | (go_simp; done) | (go_simp; with_reducible rfl) | (go_simp; rfl))
        (try simp only [Act.put, List.setIfInBounds_toArray, List.set_cons_zero, List.set_cons_succ])
        refine rg_take (i := 18) (v := ?_) rfl (by kernel_rfl) (by kernel_rfl) (by kernel_rfl) (fun _ _ _ h => h) (by with_unfolding_all rfl) (by assumption) ?_ ?_
        rotate_left
        · intro w hSw; (first | (go_simp; done) | (go_simp; with_reducible rfl) | (go_simp; rfl))
        (try simp only [Act.put, List.setIfInBounds_toArray, List.set_cons_zero, List.set_cons_succ])
        refine rg_take (i := 19) (v := ?_) rfl (by kernel_rfl) (by kernel_rfl) (by kernel_rfl) (fun _ _ _ h => h) (by with_unfolding_all rfl) (by assumption) ?_ ?_
        rotate_left
        · intro w hSw; ((with_reducible apply yl_load); assumption; rfl; (repeat (first | assumption | ((with_reducible apply Cl.blkL); exact rfl) | with_reducible apply Cl.cons)); rfl)
        (try simp only [Act.put, List.setIfInBounds_toArray, List.set_cons_zero, List.set_cons_succ])
        refine rg_take (i := 20) (v := ?_) rfl (by kernel_rfl) (by kernel_rfl) (by kernel_rfl) (fun _ _ _ h => h) (by with_unfolding_all rfl) (by assumption) ?_ ?_
        rotate_left
        · intro w hSw; (first | (go_simp; done) | (go_simp; with_reducible rfl) | (go_simp; rfl))
        (try simp only [Act.put, List.setIfInBounds_toArray, List.set_cons_zero, List.set_cons_succ])
        refine rg_take (i := 21) (v := ?_) rfl (by kernel_rfl) (by kernel_rfl) (by kernel_rfl) (fun _ _ _ h => h) (by with_unfolding_all rfl) (by assumption) ?_ ?_
        rotate_left
        · intro w hSw; (first | (go_simp; done) | (go_simp; with_reducible rfl) | (go_simp; rfl))
        (try simp only [Act.put, List.setIfInBounds_toArray, List.set_cons_zero, List.set_cons_succ])
        refine rg_take (i := 22) (v := ?_) rfl (by kernel_rfl) (by kernel_rfl) (by kernel_rfl) (fun _ _ _ h => h) (by with_unfolding_all rfl) (by assumption) ?_ ?_
        rotate_left
        · intro w hSw; (first | (go_simp; done) | (go_simp; with_reducible rfl) | (go_simp; rfl))
        (try simp only [Act.put, List.setIfInBounds_toArray, List.set_cons_zero, List.set_cons_succ])
        refine rg_take (i := 23) (v := ?_) rfl (by kernel_rfl) (by kernel_rfl) (by kernel_rfl) (fun _ _ _ h => h) (by with_unfolding_all rfl) (by assumption) ?_ ?_
        rotate_left
        · intro w hSw; (first | (go_simp; done) | (go_simp; with_reducible rfl) | (go_simp; rfl))
        (try simp only [Act.put, List.setIfInBounds_toArray, List.set_cons_zero, List.set_cons_succ])
        refine rg_take (i := 24) (v := ?_) rfl (by kernel_rfl) (by kernel_rfl) (by kernel_rfl) (fun _ _ _ h => h) (by with_unfolding_all rfl) (by assumption) ?_ ?_
        rotate_left
        · intro w hSw; ((with_reducible apply yl_load); assumption; rfl; (repeat (first | assumption | ((with_reducible apply Cl.blkL); exact rfl) | with_reducible apply Cl.cons)); rfl)
        (try simp only [Act.put, List.setIfInBounds_toArray, List.set_cons_zero, List.set_cons_succ])
        refine rg_take (i := 25) (v := ?_) rfl (by kernel_rfl) (by kernel_rfl) (by kernel_rfl) (fun _ _ _ h => h) (by with_unfolding_all rfl) (by assumption) ?_ ?_
        rotate_left
        · intro w hSw; (first | (go_simp; done) | (go_simp; with_reducible rfl) | (go_simp; rfl))
        (try simp only [Act.put, List.setIfInBounds_toArray, List.set_cons_zero, List.set_cons_succ])
        refine rg_take (i := 26) (v := ?_) rfl (by kernel_rfl) (by kernel_rfl) (by kernel_rfl) (fun _ _ _ h => h) (by with_unfolding_all rfl) (by assumption) ?_ ?_
        rotate_left
        · intro w hSw; (first | (go_simp; done) | (go_simp; with_reducible rfl) | (go_simp; rfl))
        (try simp only [Act.put, List.setIfInBounds_toArray, List.set_cons_zero, List.set_cons_succ])
        refine rg_take (i := 27) (v := ?_) rfl (by kernel_rfl) (by kernel_rfl) (by kernel_rfl) (fun _ _ _ h => h) (by with_unfolding_all rfl) (by assumption) ?_ ?_
        rotate_left
        · intro w hSw; (first | (go_simp; done) | (go_simp; with_reducible rfl) | (go_simp; rfl))
        (try simp only [Act.put, List.setIfInBounds_toArray, List.set_cons_zero, List.set_cons_succ])
        refine rg_done (by kernel_rfl) ?_
        go_wp2_with fail
        go_roundw
        case rel => exact ⟨k + 1, x, by go_num, by omega, by omega, by omega, fun _ => by rw [Nat.add_sub_cancel]; exact Hx1.out, hg.out, by first | assumption | (apply Sat.drew; assumption)⟩
        case measure => simp [intOf]; omega
    · obtain rfl : k = n := by omega
      have Hok : Hid (okServers xs = decide (1 ≤ k ∧ k ≤ 7)) := by
        unfold Hid okServers
        rw [he, List.drop_of_length_le (by have := hx.out; omega)]
        have := hx.out
        rw [← this]; simp [rise]
      clear he hl0 hlk
      by_cases h1 : 1 ≤ k
      · by_cases h7 : k ≤ 7
        · have d4 : decide (1 ≤ k ∧ k ≤ 7) = true := by simp [h1, h7]
          have Hd := Hid.mk' (Hok.out.trans d4)
          have d5 : decide ((k : Int) ≤ 7) = true := by simp; omega
          clear d4
          go_wp2_with fail
          go_ret
          exact ⟨by rw [Hd.out]; rfl, hs2⟩
        · have d4 : decide (1 ≤ k ∧ k ≤ 7) = false := by simp; omega
          have Hd := Hid.mk' (Hok.out.trans d4)
          have d5 : decide ((k : Int) ≤ 7) = false := by simp; omega
          clear d4
          go_wp2_with fail
          go_ret
          exact ⟨by rw [Hd.out]; rfl, hs2⟩
      · have d4 : decide (1 ≤ k ∧ k ≤ 7) = false := by simp; omega
        have Hd := Hid.mk' (Hok.out.trans d4)
        clear d4
        go_wp2_with fail
        go_ret
        exact ⟨by rw [Hd.out]; rfl, hs2⟩
end Go.Proofs.Ytcpcdhlfdabbnaa
