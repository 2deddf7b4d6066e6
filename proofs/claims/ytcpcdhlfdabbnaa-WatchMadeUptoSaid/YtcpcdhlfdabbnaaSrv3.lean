/-
  Lists of servers: ServersBytes, PutServers of the document, GetServers.
-/
import Derived.Test.YtcpcdhlfdabbnaaSrv2
namespace Go.Proofs.Ytcpcdhlfdabbnaa
open Go Go.RowKit Sl Go.Shelf

def nums (xs : List Int) (k : Nat) : List UInt8 := ((xs.take k).map fun n => num n.toNat).flatten
theorem nums_succ (xs : List Int) (k : Nat) (x : Int) (h : xs[k]? = some x) : nums xs (k + 1) = nums xs k ++ num x.toNat := by
  unfold nums; rw [List.take_add_one, h]; simp

theorem nums_all (xs : List Int) (k : Nat) (h : xs.length ≤ k) : num xs.length ++ nums xs k = srvBytes xs := by
  unfold nums; rw [List.take_of_length_le h]; rfl

theorem rdMany_succ (k : Nat) : ∀ e l, rdMany (k + 1) e l = ((rdMany k e l).1 ++ [(rdNumber (rdMany k e l).2.1 (rdMany k e l).2.2).1], (rdNumber (rdMany k e l).2.1 (rdMany k e l).2.2).2) := by
  induction k with
  | zero => intro e l; rfl
  | succ k ih =>
    intro e l
    have h := ih (rdNumber e l).2.1 (rdNumber e l).2.2
    show ((rdNumber e l).1 :: (rdMany (k + 1) _ _).1, (rdMany (k + 1) _ _).2) = _
    rw [h]
    rfl

/-- It has returned the numbers x.1 and the error x.2. -/
def RetI (w0 : World) (L : List HP) (x : List Int × Int) (e : Ending) (w' : World) : Prop := ∃ A c n, Hid (n = x.1.length) ∧ e = .returned (.tuple #[.slice A n c, .int .i64 x.2]) ∧ Sat w0 w' (own 3 1 A c n (I8 x.1) :: L)

set_option maxHeartbeats 2000000 in
theorem getServers_spec {w0 w : World} {L : List HP} {A : Option Addr} {c : Nat} (b : List UInt8) (hl : b.length ≤ 4294967296) (hs : Sat w0 w L) (hR : Rd w0 L A b.length 1 (B8 b)) :
    Calls Try.prog 58 #[.slice A b.length c] w (RetI w0 L (getServers b)) := by
  obtain ⟨⟨v, e, r⟩, hx⟩ : ∃ x, rdNumber 0 b = x := ⟨_, rfl⟩
  obtain ⟨hv0, _, hrl, hv48⟩ := rdNumber_ok hx
  have hN : ∀ {w : World} {L : List HP} {buf : HP} {p : Nat}, Sat w0 w (Rd1 buf p 0 b :: buf :: L) → Calls Try.prog 73 #[.pointer (some ⟨p, 0, none⟩)] w (RetN w0 L buf p (v, e, r)) := fun hs => by
    have := number_read 0 b hl hs
    rwa [hx] at this
  obtain ⟨X, hX⟩ : ∃ X, getServers b = X := ⟨_, rfl⟩
  rw [hX]
  by_cases h7 : v ≤ 7
  · obtain ⟨m, rfl⟩ := Int.eq_ofNat_of_zero_le hv0
    have hm7 : m ≤ 7 := by omega
    have HX : Hid ((if okServers (rdMany m e r).1 = true ∧ srvBytes (rdMany m e r).1 = b then ((rdMany m e r).1, 0) else ([], 21)) = X) := by
      unfold Hid; rw [← hX]; unfold getServers; rw [hx]; simp only [Int.toNat_natCast]; rw [Nat.min_eq_left hm7]
    clear hx hX
    go_enter Try.func58, Try.ntmps58
    go_wp2_with (first | (go_at_call 72; refine (new_spec b hl hs hR).mono ?_; rintro e' w2 ⟨p, bx, rfl, hs2⟩) | (go_at_call 73; refine (hN (by assumption)).mono ?_; rintro e' w3 ⟨rfl, hs3⟩; simp only at hs3) | (first | ((with_reducible apply wl_unguard); rfl) | ((with_reducible apply wl_buildSlice); assumption; rfl; (go_simp; rfl); (simp [Value.cells]); omega; intro b w1 hs1) | ((with_reducible apply wl_append); go_must (assumption; rfl; rfl; (repeat (first | exact Out.here _ | apply Out.there)); (repeat (first | assumption | exact Rd.own | exact Rd.nil | apply Rd.cons)); (first | exact B8_one _ | exact I8_one _ | (simp [Value.oneCell'])); (first | omega | (simp only [maxLen]; omega)); omega; intro A1 c1 w1 hs1 hc1; (try ((refine hs1.own_elim ?_ ?_); omega; rintro g1 rfl)); try simp only [Nat.zero_add, List.nil_append] at hs1 hc1)) | ((with_reducible apply wl_store_own); assumption; rfl; (go_simp; rfl); (repeat (first | exact Out.here _ | apply Out.there)); rfl; rfl; omega; intro w1 hs1) | ((with_reducible apply wl_store1); assumption; rfl; (go_simp; rfl); (repeat (first | exact Out.here _ | apply Out.there)); rfl; rfl; simp; intro w1 hs1; (try simp only [List.setIfInBounds_toArray] at hs1); (try simp only [List.set_cons_succ] at hs1); (try simp only [List.set_cons_zero] at hs1)) | ((with_reducible apply wl_load); assumption; rfl; (repeat (first | assumption | exact Cl.blk rfl | apply Cl.cons))) | ((with_reducible apply wl_b2s); assumption; rfl; (repeat (first | assumption | exact Rd.own | exact Rd.nil | apply Rd.cons)); first | rfl | (simp [B8_app]))) | fail)
    go_loopw [5, 13] (fun l i wr => ∃ (k : Nat) (xs : List Int) (e2 : Int) (r2 : List UInt8) (Al : Option Addr) (cl : Nat), i = .int .i64 k ∧ k ≤ m ∧ r2.length ≤ b.length ∧ rdMany k e r = (xs, e2, r2) ∧ l = .slice Al k cl ∧ Sat w0 wr (own 3 1 Al cl k (I8 xs) :: Rd1 bx p e2 r2 :: bx :: L)) (fun _ i _ => 7 - (intOf i).toNat)
    case atStart => exact ⟨0, [], e, r, none, 0, rfl, Nat.zero_le _, hrl, rfl, rfl, hs3.own_nil _ _⟩
    case round =>
      obtain ⟨k, xs, e2, r2, Al, cl, rfl, hk, hr2, hm2, rfl, hs4⟩ := hrel
      have Hm2 := Hid.mk' hm2
      clear hs hs2 hs3 hm2 hrl
      by_cases hkm : k < m
      · obtain ⟨⟨v3, e3, r3⟩, hx3⟩ : ∃ x, rdNumber e2 r2 = x := ⟨_, rfl⟩
        obtain ⟨_, _, hr3, _⟩ := rdNumber_ok hx3
        have hN2 : ∀ {w : World} {L : List HP} {buf : HP} {p : Nat}, Sat w0 w (Rd1 buf p e2 r2 :: buf :: L) → Calls Try.prog 73 #[.pointer (some ⟨p, 0, none⟩)] w (RetN w0 L buf p (v3, e3, r3)) := fun hs => by
          have := number_read e2 r2 (by omega) hs
          rwa [hx3] at this
        have Hm3 : Hid (rdMany (k + 1) e r = (xs ++ [v3], e3, r3)) := by unfold Hid; rw [rdMany_succ, Hm2.out]; simp only; rw [hx3]
        clear hx3
        go_wp2_with (first | (go_at_call 73; refine (hN2 (hs4.pick (T := Rd1 bx p e2 r2 :: bx :: own 3 1 Al cl k (I8 xs) :: L) (by (repeat (first | exact Pick.nil _ | exact Pick.tail _ | exact Out.here _ | apply Out.there | apply Pick.cons | apply Pick.drop))))).mono ?_; rintro e' w5 ⟨rfl, hs5⟩; simp only at hs5) | (first | ((with_reducible apply wl_unguard); rfl) | ((with_reducible apply wl_buildSlice); assumption; rfl; (go_simp; rfl); (simp [Value.cells]); omega; intro b w1 hs1) | ((with_reducible apply wl_append); go_must (assumption; rfl; rfl; (repeat (first | exact Out.here _ | apply Out.there)); (repeat (first | assumption | exact Rd.own | exact Rd.nil | apply Rd.cons)); (first | exact B8_one _ | exact I8_one _ | (simp [Value.oneCell'])); (first | omega | (simp only [maxLen]; omega)); omega; intro A1 c1 w1 hs1 hc1; (try ((refine hs1.own_elim ?_ ?_); omega; rintro g1 rfl)); try simp only [Nat.zero_add, List.nil_append] at hs1 hc1)) | ((with_reducible apply wl_store_own); assumption; rfl; (go_simp; rfl); (repeat (first | exact Out.here _ | apply Out.there)); rfl; rfl; omega; intro w1 hs1) | ((with_reducible apply wl_store1); assumption; rfl; (go_simp; rfl); (repeat (first | exact Out.here _ | apply Out.there)); rfl; rfl; simp; intro w1 hs1; (try simp only [List.setIfInBounds_toArray] at hs1); (try simp only [List.set_cons_succ] at hs1); (try simp only [List.set_cons_zero] at hs1)) | ((with_reducible apply wl_load); assumption; rfl; (repeat (first | assumption | exact Cl.blk rfl | apply Cl.cons))) | ((with_reducible apply wl_b2s); assumption; rfl; (repeat (first | assumption | exact Rd.own | exact Rd.nil | apply Rd.cons)); first | rfl | (simp [B8_app]))) | fail)
        go_roundw
        case rel => exact ⟨k + 1, xs ++ [v3], e3, r3, _, _, by go_num, by omega, by omega, Hm3.out, by first | rfl | go_num, hs1.pick (by rw [show I8 (xs ++ [v3]) = I8 xs ++ [.int .i64 v3] from by simp [I8]]; (repeat (first | exact Pick.nil _ | exact Pick.tail _ | exact Out.here _ | apply Out.there | apply Pick.cons | apply Pick.drop)))⟩
        case measure => simp [intOf]; omega
      · obtain rfl : m = k := by omega
        have hxl : Hid (m = xs.length) := by have := rdMany_length m e r; rw [Hm2.out] at this; exact this.symm
        have hP : ∀ {w : World} {L : List HP}, Sat w0 w L → Rd w0 L Al m 1 (I8 xs) → Calls Try.prog 74 #[.slice Al m cl] w (RetT w0 L (putServers xs)) := fun hs hr => putServers_spec xs m hxl.out (by omega) hs hr
        obtain ⟨ok, hok⟩ : ∃ ok, okServers xs = ok := ⟨_, rfl⟩
        have HX2 : Hid ((if okServers xs = true ∧ srvBytes xs = b then (xs, 0) else ([], 21)) = X) := by have := HX.out; rw [Hm2.out] at this; exact this
        cases ok with
        | false =>
          have hp : putServers xs = ([], 1) := by simp [putServers, hok]
          rw [hp] at hP
          have HX3 : Hid (X = ([], 21)) := by unfold Hid; rw [← HX2.out, if_neg (by rw [hok]; simp)]
          clear hp hok
          go_wp2_with (first | (go_at_call 74; refine (hP hs4 Rd.own).mono ?_; rintro e' w6 ⟨A6, c6, rfl, hs6⟩) | (first | ((with_reducible apply wl_unguard); rfl) | ((with_reducible apply wl_buildSlice); assumption; rfl; (go_simp; rfl); (simp [Value.cells]); omega; intro b w1 hs1) | ((with_reducible apply wl_append); go_must (assumption; rfl; rfl; (repeat (first | exact Out.here _ | apply Out.there)); (repeat (first | assumption | exact Rd.own | exact Rd.nil | apply Rd.cons)); (first | exact B8_one _ | exact I8_one _ | (simp [Value.oneCell'])); (first | omega | (simp only [maxLen]; omega)); omega; intro A1 c1 w1 hs1 hc1; (try ((refine hs1.own_elim ?_ ?_); omega; rintro g1 rfl)); try simp only [Nat.zero_add, List.nil_append] at hs1 hc1)) | ((with_reducible apply wl_store_own); assumption; rfl; (go_simp; rfl); (repeat (first | exact Out.here _ | apply Out.there)); rfl; rfl; omega; intro w1 hs1) | ((with_reducible apply wl_store1); assumption; rfl; (go_simp; rfl); (repeat (first | exact Out.here _ | apply Out.there)); rfl; rfl; simp; intro w1 hs1; (try simp only [List.setIfInBounds_toArray] at hs1); (try simp only [List.set_cons_succ] at hs1); (try simp only [List.set_cons_zero] at hs1)) | ((with_reducible apply wl_load); assumption; rfl; (repeat (first | assumption | exact Cl.blk rfl | apply Cl.cons))) | ((with_reducible apply wl_b2s); assumption; rfl; (repeat (first | assumption | exact Rd.own | exact Rd.nil | apply Rd.cons)); first | rfl | (simp [B8_app]))) | fail)
          go_ret2
          exact ⟨none, 0, 0, by unfold Hid; rw [HX3.out]; rfl, by rw [HX3.out]; rfl, by rw [HX3.out]; exact Sat.own_nil (hs6.pick (by (repeat (first | exact Pick.nil _ | exact Pick.tail _ | exact Out.here _ | apply Out.there | apply Pick.cons | apply Pick.drop)))) _ _⟩
        | true =>
          have hp : putServers xs = (srvBytes xs, 0) := by simp [putServers, hok]
          rw [hp] at hP
          obtain ⟨z, hz⟩ : ∃ z, z = srvBytes xs := ⟨_, rfl⟩
          rw [← hz] at hP
          by_cases hzb : z = b
          · have HX3 : Hid (X = (xs, 0)) := by unfold Hid; rw [← HX2.out, if_pos ⟨hok, by rw [← hz, hzb]⟩]
            have hzb2 : (z == b) = true := by simp [hzb]
            clear hp hok hz hzb
            go_wp2_with (first | (go_at_call 74; refine (hP hs4 Rd.own).mono ?_; rintro e' w6 ⟨A6, c6, rfl, hs6⟩; simp only at hs6) | (go_at_call 47; refine (equal_spec z b hs6 Rd.own hR.cons.cons.cons.cons).mono ?_; rintro e' w7 ⟨rfl, rfl⟩) | (first | ((with_reducible apply wl_unguard); rfl) | ((with_reducible apply wl_buildSlice); assumption; rfl; (go_simp; rfl); (simp [Value.cells]); omega; intro b w1 hs1) | ((with_reducible apply wl_append); go_must (assumption; rfl; rfl; (repeat (first | exact Out.here _ | apply Out.there)); (repeat (first | assumption | exact Rd.own | exact Rd.nil | apply Rd.cons)); (first | exact B8_one _ | exact I8_one _ | (simp [Value.oneCell'])); (first | omega | (simp only [maxLen]; omega)); omega; intro A1 c1 w1 hs1 hc1; (try ((refine hs1.own_elim ?_ ?_); omega; rintro g1 rfl)); try simp only [Nat.zero_add, List.nil_append] at hs1 hc1)) | ((with_reducible apply wl_store_own); assumption; rfl; (go_simp; rfl); (repeat (first | exact Out.here _ | apply Out.there)); rfl; rfl; omega; intro w1 hs1) | ((with_reducible apply wl_store1); assumption; rfl; (go_simp; rfl); (repeat (first | exact Out.here _ | apply Out.there)); rfl; rfl; simp; intro w1 hs1; (try simp only [List.setIfInBounds_toArray] at hs1); (try simp only [List.set_cons_succ] at hs1); (try simp only [List.set_cons_zero] at hs1)) | ((with_reducible apply wl_load); assumption; rfl; (repeat (first | assumption | exact Cl.blk rfl | apply Cl.cons))) | ((with_reducible apply wl_b2s); assumption; rfl; (repeat (first | assumption | exact Rd.own | exact Rd.nil | apply Rd.cons)); first | rfl | (simp [B8_app]))) | fail)
            go_ret2
            exact ⟨Al, cl, m, by unfold Hid; rw [HX3.out]; exact hxl.out, by rw [HX3.out]; rfl, by rw [HX3.out]; exact hs6.pick (by (repeat (first | exact Pick.nil _ | exact Pick.tail _ | exact Out.here _ | apply Out.there | apply Pick.cons | apply Pick.drop)))⟩
          · have HX3 : Hid (X = ([], 21)) := by unfold Hid; rw [← HX2.out, if_neg (by rw [← hz]; exact fun h => hzb h.2)]
            have hzb2 : (z == b) = false := by simp [hzb]
            clear hp hok hz hzb
            go_wp2_with (first | (go_at_call 74; refine (hP hs4 Rd.own).mono ?_; rintro e' w6 ⟨A6, c6, rfl, hs6⟩; simp only at hs6) | (go_at_call 47; refine (equal_spec z b hs6 Rd.own hR.cons.cons.cons.cons).mono ?_; rintro e' w7 ⟨rfl, rfl⟩) | (first | ((with_reducible apply wl_unguard); rfl) | ((with_reducible apply wl_buildSlice); assumption; rfl; (go_simp; rfl); (simp [Value.cells]); omega; intro b w1 hs1) | ((with_reducible apply wl_append); go_must (assumption; rfl; rfl; (repeat (first | exact Out.here _ | apply Out.there)); (repeat (first | assumption | exact Rd.own | exact Rd.nil | apply Rd.cons)); (first | exact B8_one _ | exact I8_one _ | (simp [Value.oneCell'])); (first | omega | (simp only [maxLen]; omega)); omega; intro A1 c1 w1 hs1 hc1; (try ((refine hs1.own_elim ?_ ?_); omega; rintro g1 rfl)); try simp only [Nat.zero_add, List.nil_append] at hs1 hc1)) | ((with_reducible apply wl_store_own); assumption; rfl; (go_simp; rfl); (repeat (first | exact Out.here _ | apply Out.there)); rfl; rfl; omega; intro w1 hs1) | ((with_reducible apply wl_store1); assumption; rfl; (go_simp; rfl); (repeat (first | exact Out.here _ | apply Out.there)); rfl; rfl; simp; intro w1 hs1; (try simp only [List.setIfInBounds_toArray] at hs1); (try simp only [List.set_cons_succ] at hs1); (try simp only [List.set_cons_zero] at hs1)) | ((with_reducible apply wl_load); assumption; rfl; (repeat (first | assumption | exact Cl.blk rfl | apply Cl.cons))) | ((with_reducible apply wl_b2s); assumption; rfl; (repeat (first | assumption | exact Rd.own | exact Rd.nil | apply Rd.cons)); first | rfl | (simp [B8_app]))) | fail)
            go_ret2
            exact ⟨none, 0, 0, by unfold Hid; rw [HX3.out]; rfl, by rw [HX3.out]; rfl, by rw [HX3.out]; exact Sat.own_nil (hs6.pick (by (repeat (first | exact Pick.nil _ | exact Pick.tail _ | exact Out.here _ | apply Out.there | apply Pick.cons | apply Pick.drop)))) _ _⟩
  · have HX : Hid ((if okServers (rdMany 7 e r).1 = true ∧ srvBytes (rdMany 7 e r).1 = b then ((rdMany 7 e r).1, 0) else ([], 21)) = X) := by
      unfold Hid; rw [← hX]; unfold getServers; rw [hx]; simp only; rw [Nat.min_eq_right (by omega)]
    clear hx hX
    go_enter Try.func58, Try.ntmps58
    go_wp2_with (first | (go_at_call 72; refine (new_spec b hl hs hR).mono ?_; rintro e' w2 ⟨p, bx, rfl, hs2⟩) | (go_at_call 73; refine (hN (by assumption)).mono ?_; rintro e' w3 ⟨rfl, hs3⟩; simp only at hs3) | (first | ((with_reducible apply wl_unguard); rfl) | ((with_reducible apply wl_buildSlice); assumption; rfl; (go_simp; rfl); (simp [Value.cells]); omega; intro b w1 hs1) | ((with_reducible apply wl_append); go_must (assumption; rfl; rfl; (repeat (first | exact Out.here _ | apply Out.there)); (repeat (first | assumption | exact Rd.own | exact Rd.nil | apply Rd.cons)); (first | exact B8_one _ | exact I8_one _ | (simp [Value.oneCell'])); (first | omega | (simp only [maxLen]; omega)); omega; intro A1 c1 w1 hs1 hc1; (try ((refine hs1.own_elim ?_ ?_); omega; rintro g1 rfl)); try simp only [Nat.zero_add, List.nil_append] at hs1 hc1)) | ((with_reducible apply wl_store_own); assumption; rfl; (go_simp; rfl); (repeat (first | exact Out.here _ | apply Out.there)); rfl; rfl; omega; intro w1 hs1) | ((with_reducible apply wl_store1); assumption; rfl; (go_simp; rfl); (repeat (first | exact Out.here _ | apply Out.there)); rfl; rfl; simp; intro w1 hs1; (try simp only [List.setIfInBounds_toArray] at hs1); (try simp only [List.set_cons_succ] at hs1); (try simp only [List.set_cons_zero] at hs1)) | ((with_reducible apply wl_load); assumption; rfl; (repeat (first | assumption | exact Cl.blk rfl | apply Cl.cons))) | ((with_reducible apply wl_b2s); assumption; rfl; (repeat (first | assumption | exact Rd.own | exact Rd.nil | apply Rd.cons)); first | rfl | (simp [B8_app]))) | fail)
    go_loopw [5, 13] (fun l i wr => ∃ (k : Nat) (xs : List Int) (e2 : Int) (r2 : List UInt8) (Al : Option Addr) (cl : Nat), i = .int .i64 k ∧ k ≤ 7 ∧ r2.length ≤ b.length ∧ rdMany k e r = (xs, e2, r2) ∧ l = .slice Al k cl ∧ Sat w0 wr (own 3 1 Al cl k (I8 xs) :: Rd1 bx p e2 r2 :: bx :: L)) (fun _ i _ => 7 - (intOf i).toNat)
    case atStart => exact ⟨0, [], e, r, none, 0, rfl, Nat.zero_le _, hrl, rfl, rfl, hs3.own_nil _ _⟩
    case round =>
      obtain ⟨k, xs, e2, r2, Al, cl, rfl, hk, hr2, hm2, rfl, hs4⟩ := hrel
      have Hm2 := Hid.mk' hm2
      clear hs hs2 hs3 hm2 hrl
      by_cases hkm : k < 7
      · obtain ⟨⟨v3, e3, r3⟩, hx3⟩ : ∃ x, rdNumber e2 r2 = x := ⟨_, rfl⟩
        obtain ⟨_, _, hr3, _⟩ := rdNumber_ok hx3
        have hN2 : ∀ {w : World} {L : List HP} {buf : HP} {p : Nat}, Sat w0 w (Rd1 buf p e2 r2 :: buf :: L) → Calls Try.prog 73 #[.pointer (some ⟨p, 0, none⟩)] w (RetN w0 L buf p (v3, e3, r3)) := fun hs => by
          have := number_read e2 r2 (by omega) hs
          rwa [hx3] at this
        have Hm3 : Hid (rdMany (k + 1) e r = (xs ++ [v3], e3, r3)) := by unfold Hid; rw [rdMany_succ, Hm2.out]; simp only; rw [hx3]
        clear hx3
        go_wp2_with (first | (go_at_call 73; refine (hN2 (hs4.pick (T := Rd1 bx p e2 r2 :: bx :: own 3 1 Al cl k (I8 xs) :: L) (by (repeat (first | exact Pick.nil _ | exact Pick.tail _ | exact Out.here _ | apply Out.there | apply Pick.cons | apply Pick.drop))))).mono ?_; rintro e' w5 ⟨rfl, hs5⟩; simp only at hs5) | (first | ((with_reducible apply wl_unguard); rfl) | ((with_reducible apply wl_buildSlice); assumption; rfl; (go_simp; rfl); (simp [Value.cells]); omega; intro b w1 hs1) | ((with_reducible apply wl_append); go_must (assumption; rfl; rfl; (repeat (first | exact Out.here _ | apply Out.there)); (repeat (first | assumption | exact Rd.own | exact Rd.nil | apply Rd.cons)); (first | exact B8_one _ | exact I8_one _ | (simp [Value.oneCell'])); (first | omega | (simp only [maxLen]; omega)); omega; intro A1 c1 w1 hs1 hc1; (try ((refine hs1.own_elim ?_ ?_); omega; rintro g1 rfl)); try simp only [Nat.zero_add, List.nil_append] at hs1 hc1)) | ((with_reducible apply wl_store_own); assumption; rfl; (go_simp; rfl); (repeat (first | exact Out.here _ | apply Out.there)); rfl; rfl; omega; intro w1 hs1) | ((with_reducible apply wl_store1); assumption; rfl; (go_simp; rfl); (repeat (first | exact Out.here _ | apply Out.there)); rfl; rfl; simp; intro w1 hs1; (try simp only [List.setIfInBounds_toArray] at hs1); (try simp only [List.set_cons_succ] at hs1); (try simp only [List.set_cons_zero] at hs1)) | ((with_reducible apply wl_load); assumption; rfl; (repeat (first | assumption | exact Cl.blk rfl | apply Cl.cons))) | ((with_reducible apply wl_b2s); assumption; rfl; (repeat (first | assumption | exact Rd.own | exact Rd.nil | apply Rd.cons)); first | rfl | (simp [B8_app]))) | fail)
        go_roundw
        case rel => exact ⟨k + 1, xs ++ [v3], e3, r3, _, _, by go_num, by omega, by omega, Hm3.out, by first | rfl | go_num, hs1.pick (by rw [show I8 (xs ++ [v3]) = I8 xs ++ [.int .i64 v3] from by simp [I8]]; (repeat (first | exact Pick.nil _ | exact Pick.tail _ | exact Out.here _ | apply Out.there | apply Pick.cons | apply Pick.drop)))⟩
        case measure => simp [intOf]; omega
      · obtain rfl : k = 7 := by omega
        have hxl : Hid (7 = xs.length) := by have := rdMany_length 7 e r; rw [Hm2.out] at this; exact this.symm
        have hP : ∀ {w : World} {L : List HP}, Sat w0 w L → Rd w0 L Al 7 1 (I8 xs) → Calls Try.prog 74 #[.slice Al 7 cl] w (RetT w0 L (putServers xs)) := fun hs hr => putServers_spec xs 7 hxl.out (by omega) hs hr
        obtain ⟨ok, hok⟩ : ∃ ok, okServers xs = ok := ⟨_, rfl⟩
        have HX2 : Hid ((if okServers xs = true ∧ srvBytes xs = b then (xs, 0) else ([], 21)) = X) := by have := HX.out; rw [Hm2.out] at this; exact this
        cases ok with
        | false =>
          have hp : putServers xs = ([], 1) := by simp [putServers, hok]
          rw [hp] at hP
          have HX3 : Hid (X = ([], 21)) := by unfold Hid; rw [← HX2.out, if_neg (by rw [hok]; simp)]
          clear hp hok
          go_wp2_with (first | (go_at_call 74; refine (hP hs4 Rd.own).mono ?_; rintro e' w6 ⟨A6, c6, rfl, hs6⟩) | (first | ((with_reducible apply wl_unguard); rfl) | ((with_reducible apply wl_buildSlice); assumption; rfl; (go_simp; rfl); (simp [Value.cells]); omega; intro b w1 hs1) | ((with_reducible apply wl_append); go_must (assumption; rfl; rfl; (repeat (first | exact Out.here _ | apply Out.there)); (repeat (first | assumption | exact Rd.own | exact Rd.nil | apply Rd.cons)); (first | exact B8_one _ | exact I8_one _ | (simp [Value.oneCell'])); (first | omega | (simp only [maxLen]; omega)); omega; intro A1 c1 w1 hs1 hc1; (try ((refine hs1.own_elim ?_ ?_); omega; rintro g1 rfl)); try simp only [Nat.zero_add, List.nil_append] at hs1 hc1)) | ((with_reducible apply wl_store_own); assumption; rfl; (go_simp; rfl); (repeat (first | exact Out.here _ | apply Out.there)); rfl; rfl; omega; intro w1 hs1) | ((with_reducible apply wl_store1); assumption; rfl; (go_simp; rfl); (repeat (first | exact Out.here _ | apply Out.there)); rfl; rfl; simp; intro w1 hs1; (try simp only [List.setIfInBounds_toArray] at hs1); (try simp only [List.set_cons_succ] at hs1); (try simp only [List.set_cons_zero] at hs1)) | ((with_reducible apply wl_load); assumption; rfl; (repeat (first | assumption | exact Cl.blk rfl | apply Cl.cons))) | ((with_reducible apply wl_b2s); assumption; rfl; (repeat (first | assumption | exact Rd.own | exact Rd.nil | apply Rd.cons)); first | rfl | (simp [B8_app]))) | fail)
          go_ret2
          exact ⟨none, 0, 0, by unfold Hid; rw [HX3.out]; rfl, by rw [HX3.out]; rfl, by rw [HX3.out]; exact Sat.own_nil (hs6.pick (by (repeat (first | exact Pick.nil _ | exact Pick.tail _ | exact Out.here _ | apply Out.there | apply Pick.cons | apply Pick.drop)))) _ _⟩
        | true =>
          have hp : putServers xs = (srvBytes xs, 0) := by simp [putServers, hok]
          rw [hp] at hP
          obtain ⟨z, hz⟩ : ∃ z, z = srvBytes xs := ⟨_, rfl⟩
          rw [← hz] at hP
          by_cases hzb : z = b
          · have HX3 : Hid (X = (xs, 0)) := by unfold Hid; rw [← HX2.out, if_pos ⟨hok, by rw [← hz, hzb]⟩]
            have hzb2 : (z == b) = true := by simp [hzb]
            clear hp hok hz hzb
            go_wp2_with (first | (go_at_call 74; refine (hP hs4 Rd.own).mono ?_; rintro e' w6 ⟨A6, c6, rfl, hs6⟩; simp only at hs6) | (go_at_call 47; refine (equal_spec z b hs6 Rd.own hR.cons.cons.cons.cons).mono ?_; rintro e' w7 ⟨rfl, rfl⟩) | (first | ((with_reducible apply wl_unguard); rfl) | ((with_reducible apply wl_buildSlice); assumption; rfl; (go_simp; rfl); (simp [Value.cells]); omega; intro b w1 hs1) | ((with_reducible apply wl_append); go_must (assumption; rfl; rfl; (repeat (first | exact Out.here _ | apply Out.there)); (repeat (first | assumption | exact Rd.own | exact Rd.nil | apply Rd.cons)); (first | exact B8_one _ | exact I8_one _ | (simp [Value.oneCell'])); (first | omega | (simp only [maxLen]; omega)); omega; intro A1 c1 w1 hs1 hc1; (try ((refine hs1.own_elim ?_ ?_); omega; rintro g1 rfl)); try simp only [Nat.zero_add, List.nil_append] at hs1 hc1)) | ((with_reducible apply wl_store_own); assumption; rfl; (go_simp; rfl); (repeat (first | exact Out.here _ | apply Out.there)); rfl; rfl; omega; intro w1 hs1) | ((with_reducible apply wl_store1); assumption; rfl; (go_simp; rfl); (repeat (first | exact Out.here _ | apply Out.there)); rfl; rfl; simp; intro w1 hs1; (try simp only [List.setIfInBounds_toArray] at hs1); (try simp only [List.set_cons_succ] at hs1); (try simp only [List.set_cons_zero] at hs1)) | ((with_reducible apply wl_load); assumption; rfl; (repeat (first | assumption | exact Cl.blk rfl | apply Cl.cons))) | ((with_reducible apply wl_b2s); assumption; rfl; (repeat (first | assumption | exact Rd.own | exact Rd.nil | apply Rd.cons)); first | rfl | (simp [B8_app]))) | fail)
            go_ret2
            exact ⟨Al, cl, 7, by unfold Hid; rw [HX3.out]; exact hxl.out, by rw [HX3.out]; rfl, by rw [HX3.out]; exact hs6.pick (by (repeat (first | exact Pick.nil _ | exact Pick.tail _ | exact Out.here _ | apply Out.there | apply Pick.cons | apply Pick.drop)))⟩
          · have HX3 : Hid (X = ([], 21)) := by unfold Hid; rw [← HX2.out, if_neg (by rw [← hz]; exact fun h => hzb h.2)]
            have hzb2 : (z == b) = false := by simp [hzb]
            clear hp hok hz hzb
            go_wp2_with (first | (go_at_call 74; refine (hP hs4 Rd.own).mono ?_; rintro e' w6 ⟨A6, c6, rfl, hs6⟩; simp only at hs6) | (go_at_call 47; refine (equal_spec z b hs6 Rd.own hR.cons.cons.cons.cons).mono ?_; rintro e' w7 ⟨rfl, rfl⟩) | (first | ((with_reducible apply wl_unguard); rfl) | ((with_reducible apply wl_buildSlice); assumption; rfl; (go_simp; rfl); (simp [Value.cells]); omega; intro b w1 hs1) | ((with_reducible apply wl_append); go_must (assumption; rfl; rfl; (repeat (first | exact Out.here _ | apply Out.there)); (repeat (first | assumption | exact Rd.own | exact Rd.nil | apply Rd.cons)); (first | exact B8_one _ | exact I8_one _ | (simp [Value.oneCell'])); (first | omega | (simp only [maxLen]; omega)); omega; intro A1 c1 w1 hs1 hc1; (try ((refine hs1.own_elim ?_ ?_); omega; rintro g1 rfl)); try simp only [Nat.zero_add, List.nil_append] at hs1 hc1)) | ((with_reducible apply wl_store_own); assumption; rfl; (go_simp; rfl); (repeat (first | exact Out.here _ | apply Out.there)); rfl; rfl; omega; intro w1 hs1) | ((with_reducible apply wl_store1); assumption; rfl; (go_simp; rfl); (repeat (first | exact Out.here _ | apply Out.there)); rfl; rfl; simp; intro w1 hs1; (try simp only [List.setIfInBounds_toArray] at hs1); (try simp only [List.set_cons_succ] at hs1); (try simp only [List.set_cons_zero] at hs1)) | ((with_reducible apply wl_load); assumption; rfl; (repeat (first | assumption | exact Cl.blk rfl | apply Cl.cons))) | ((with_reducible apply wl_b2s); assumption; rfl; (repeat (first | assumption | exact Rd.own | exact Rd.nil | apply Rd.cons)); first | rfl | (simp [B8_app]))) | fail)
            go_ret2
            exact ⟨none, 0, 0, by unfold Hid; rw [HX3.out]; rfl, by rw [HX3.out]; rfl, by rw [HX3.out]; exact Sat.own_nil (hs6.pick (by (repeat (first | exact Pick.nil _ | exact Pick.tail _ | exact Out.here _ | apply Out.there | apply Pick.cons | apply Pick.drop)))) _ _⟩
end Go.Proofs.Ytcpcdhlfdabbnaa
