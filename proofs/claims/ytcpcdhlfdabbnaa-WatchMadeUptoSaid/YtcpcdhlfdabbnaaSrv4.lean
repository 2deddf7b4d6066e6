/-
  GetServers of the document. (This template was written by srv4gen.py.)
-/
import Derived.Test.YtcpcdhlfdabbnaaSrv3
namespace Go.Proofs.Ytcpcdhlfdabbnaa
open Go Go.RowKit Sl Go.Shelf

set_option maxRecDepth 8000 in
set_option maxHeartbeats 4000000 in
theorem refGetServers_spec' {w0 w : World} {L : List HP} {A : Option Addr} {c : Nat} (b : List UInt8) (hl : b.length ≤ 4294967296) (hs : Sat w0 w L) (hR : Rd w0 L A b.length 1 (B8 b)) :
    Calls Try.prog 61 #[.slice A b.length c] w (RetI w0 L (refGetServers b)) := by
  obtain ⟨⟨v, e, r⟩, hx⟩ : ∃ x, rdNumber 0 b = x := ⟨_, rfl⟩
  obtain ⟨hv0, hvv, hrl, hv48⟩ := rdNumber_ok hx
  clear hvv
  have hN : ∀ {w : World} {L : List HP} {buf : HP} {p : Nat}, Sat w0 w (RR buf p 0 b :: buf :: L) → Calls Try.prog 78 #[.pointer (some ⟨p, 0, none⟩)] w (fun q w' => q = .returned (.int .i64 v) ∧ Sat w0 w' (RR buf p e r :: buf :: L)) := fun hs => by
    have := refNumberR 0 b hs
    rwa [hx] at this
  obtain ⟨X, hX⟩ : ∃ X, refGetServers b = X := ⟨_, rfl⟩
  rw [hX]
  by_cases h7 : v ≤ 8
  · obtain ⟨m, rfl⟩ := Int.eq_ofNat_of_zero_le hv0
    have hm7 : m ≤ 8 := by omega
    have HX : Hid ((if rdEnd (rdMany m e r).2.1 (rdMany m e r).2.2 ≠ 0 ∨ (m : Int) ≠ ((rdMany m e r).1.length : Int) ∨ okServers (rdMany m e r).1 = false then ([], 21) else ((rdMany m e r).1, 0)) = X) := by
      unfold Hid; rw [← hX]; unfold refGetServers; rw [hx]; simp only [Int.toNat_natCast]; rw [Nat.min_eq_left hm7]
    clear hx hX
    go_enter Try.func61, Try.ntmps61
    go_wp2_with (first | (go_at_call 77; refine (refNew_spec b hl hs hR).mono ?_; rintro e' w2 ⟨p, bx, rfl, hs2⟩) | (go_at_call 78; refine (hN (by assumption)).mono ?_; rintro e' w3 ⟨rfl, hs3⟩) | (first | ((with_reducible apply wl_unguard); rfl) | ((with_reducible apply wl_buildSlice); assumption; rfl; (go_simp; rfl); (simp [Value.cells]); omega; intro b w1 hs1) | ((with_reducible apply wl_append); go_must (assumption; rfl; rfl; (repeat (first | exact Out.here _ | apply Out.there)); (repeat (first | assumption | exact Rd.own | exact Rd.nil | apply Rd.cons)); (first | exact B8_one _ | exact I8_one _ | (simp [Value.oneCell'])); (first | omega | (simp only [maxLen]; omega)); omega; intro A1 c1 w1 hs1 hc1; (try ((refine hs1.own_elim ?_ ?_); omega; rintro g1 rfl)); try simp only [Nat.zero_add, List.nil_append] at hs1 hc1)) | ((with_reducible apply wl_store_own); assumption; rfl; (go_simp; rfl); (repeat (first | exact Out.here _ | apply Out.there)); rfl; rfl; omega; intro w1 hs1) | ((with_reducible apply wl_store1); assumption; rfl; (go_simp; rfl); (repeat (first | exact Out.here _ | apply Out.there)); rfl; rfl; simp; intro w1 hs1; (try simp only [List.setIfInBounds_toArray] at hs1); (try simp only [List.set_cons_succ] at hs1); (try simp only [List.set_cons_zero] at hs1)) | ((with_reducible apply wl_load); assumption; rfl; (repeat (first | assumption | exact Cl.blk rfl | apply Cl.cons))) | ((with_reducible apply wl_b2s); assumption; rfl; (repeat (first | assumption | exact Rd.own | exact Rd.nil | apply Rd.cons)); first | rfl | (simp [B8_app]))) | fail)
    go_loopw [6, 7] (fun l i wr => ∃ (k : Nat) (xs : List Int) (e2 : Int) (r2 : List UInt8) (Al : Option Addr) (cl : Nat), i = .int .i64 k ∧ k ≤ m ∧ rdMany k e r = (xs, e2, r2) ∧ l = .slice Al k cl ∧ Sat w0 wr (own 3 1 Al cl k (I8 xs) :: RR bx p e2 r2 :: bx :: L)) (fun _ i _ => 8 - (intOf i).toNat)
    case atStart => exact ⟨0, [], e, r, none, 0, rfl, Nat.zero_le _, rfl, rfl, hs3.own_nil _ _⟩
    case round =>
      obtain ⟨k, xs, e2, r2, Al, cl, rfl, hk, hm2, rfl, hs4⟩ := hrel
      have Hm2 := Hid.mk' hm2
      clear hs hs2 hs3 hm2 hrl
      by_cases hkm : k < m
      · obtain ⟨⟨v3, e3, r3⟩, hx3⟩ : ∃ x, rdNumber e2 r2 = x := ⟨_, rfl⟩
        have hN2 : ∀ {w : World} {L : List HP} {buf : HP} {p : Nat}, Sat w0 w (RR buf p e2 r2 :: buf :: L) → Calls Try.prog 78 #[.pointer (some ⟨p, 0, none⟩)] w (fun q w' => q = .returned (.int .i64 v3) ∧ Sat w0 w' (RR buf p e3 r3 :: buf :: L)) := fun hs => by
          have := refNumberR e2 r2 hs
          rwa [hx3] at this
        have Hm3 : Hid (rdMany (k + 1) e r = (xs ++ [v3], e3, r3)) := by unfold Hid; rw [rdMany_succ, Hm2.out]; simp only; rw [hx3]
        clear hx3
        have d1 : decide ((k : Int) < (m : Int)) = true := by simp; omega
        have d2 : decide ((k : Int) < 8) = true := by simp; omega
        go_wp2_with (first | (go_at_call 78; refine (hN2 (hs4.pick (T := RR bx p e2 r2 :: bx :: own 3 1 Al cl k (I8 xs) :: L) (by (repeat (first | exact Pick.nil _ | exact Pick.tail _ | exact Out.here _ | apply Out.there | apply Pick.cons | apply Pick.drop))))).mono ?_; rintro e' w5 ⟨rfl, hs5⟩) | (first | ((with_reducible apply wl_unguard); rfl) | ((with_reducible apply wl_buildSlice); assumption; rfl; (go_simp; rfl); (simp [Value.cells]); omega; intro b w1 hs1) | ((with_reducible apply wl_append); go_must (assumption; rfl; rfl; (repeat (first | exact Out.here _ | apply Out.there)); (repeat (first | assumption | exact Rd.own | exact Rd.nil | apply Rd.cons)); (first | exact B8_one _ | exact I8_one _ | (simp [Value.oneCell'])); (first | omega | (simp only [maxLen]; omega)); omega; intro A1 c1 w1 hs1 hc1; (try ((refine hs1.own_elim ?_ ?_); omega; rintro g1 rfl)); try simp only [Nat.zero_add, List.nil_append] at hs1 hc1)) | ((with_reducible apply wl_store_own); assumption; rfl; (go_simp; rfl); (repeat (first | exact Out.here _ | apply Out.there)); rfl; rfl; omega; intro w1 hs1) | ((with_reducible apply wl_store1); assumption; rfl; (go_simp; rfl); (repeat (first | exact Out.here _ | apply Out.there)); rfl; rfl; simp; intro w1 hs1; (try simp only [List.setIfInBounds_toArray] at hs1); (try simp only [List.set_cons_succ] at hs1); (try simp only [List.set_cons_zero] at hs1)) | ((with_reducible apply wl_load); assumption; rfl; (repeat (first | assumption | exact Cl.blk rfl | apply Cl.cons))) | ((with_reducible apply wl_b2s); assumption; rfl; (repeat (first | assumption | exact Rd.own | exact Rd.nil | apply Rd.cons)); first | rfl | (simp [B8_app]))) | fail)
        go_roundw
        case rel => exact ⟨k + 1, xs ++ [v3], e3, r3, _, _, by go_num, by omega, Hm3.out, by first | rfl | go_num, hs1.pick (by rw [show I8 (xs ++ [v3]) = I8 xs ++ [.int .i64 v3] from by simp [I8]]; (repeat (first | exact Pick.nil _ | exact Pick.tail _ | exact Out.here _ | apply Out.there | apply Pick.cons | apply Pick.drop)))⟩
        case measure => simp [intOf]; omega
      · obtain rfl : m = k := by omega
        have hxl : Hid (m = xs.length) := by have := rdMany_length m e r; rw [Hm2.out] at this; exact this.symm
        have HX2 : Hid ((if rdEnd e2 r2 ≠ 0 ∨ (m : Int) ≠ (xs.length : Int) ∨ okServers xs = false then ([], 21) else (xs, 0)) = X) := by have := HX.out; rw [Hm2.out] at this; exact this
        obtain ⟨d, hd⟩ : ∃ d, d = rdEnd e2 r2 := ⟨_, rfl⟩
        have hE : ∀ {w : World} {L : List HP}, Sat w0 w (RR bx p e2 r2 :: L) → Calls Try.prog 79 #[.pointer (some ⟨p, 0, none⟩)] w (fun r w' => r = .returned (.int .i64 d) ∧ Sat w0 w' (RR bx p e2 r2 :: L)) := fun hs => by rw [hd]; exact refEnd_spec hs
        by_cases hd0 : d ≠ 0
        · have HX3 : Hid (X = ([], 21)) := by unfold Hid; rw [← HX2.out, if_pos (.inl (by rw [← hd]; exact hd0))]
          have h0 : (d != 0) = true := by simp [hd0]
          clear hd hd0
          go_wp2_with (first | (go_at_call 79; refine (hE (hs4.pick (T := RR bx p e2 r2 :: bx :: own 3 1 Al cl m (I8 xs) :: L) (by (repeat (first | exact Pick.nil _ | exact Pick.tail _ | exact Out.here _ | apply Out.there | apply Pick.cons | apply Pick.drop))))).mono ?_; rintro e' w5 ⟨rfl, hs5⟩) | (first | ((with_reducible apply wl_unguard); rfl) | ((with_reducible apply wl_buildSlice); assumption; rfl; (go_simp; rfl); (simp [Value.cells]); omega; intro b w1 hs1) | ((with_reducible apply wl_append); go_must (assumption; rfl; rfl; (repeat (first | exact Out.here _ | apply Out.there)); (repeat (first | assumption | exact Rd.own | exact Rd.nil | apply Rd.cons)); (first | exact B8_one _ | exact I8_one _ | (simp [Value.oneCell'])); (first | omega | (simp only [maxLen]; omega)); omega; intro A1 c1 w1 hs1 hc1; (try ((refine hs1.own_elim ?_ ?_); omega; rintro g1 rfl)); try simp only [Nat.zero_add, List.nil_append] at hs1 hc1)) | ((with_reducible apply wl_store_own); assumption; rfl; (go_simp; rfl); (repeat (first | exact Out.here _ | apply Out.there)); rfl; rfl; omega; intro w1 hs1) | ((with_reducible apply wl_store1); assumption; rfl; (go_simp; rfl); (repeat (first | exact Out.here _ | apply Out.there)); rfl; rfl; simp; intro w1 hs1; (try simp only [List.setIfInBounds_toArray] at hs1); (try simp only [List.set_cons_succ] at hs1); (try simp only [List.set_cons_zero] at hs1)) | ((with_reducible apply wl_load); assumption; rfl; (repeat (first | assumption | exact Cl.blk rfl | apply Cl.cons))) | ((with_reducible apply wl_b2s); assumption; rfl; (repeat (first | assumption | exact Rd.own | exact Rd.nil | apply Rd.cons)); first | rfl | (simp [B8_app]))) | fail)
          go_ret2
          exact ⟨none, 0, 0, by unfold Hid; rw [HX3.out]; rfl, by rw [HX3.out]; rfl, by rw [HX3.out]; exact Sat.own_nil (hs5.pick (by (repeat (first | exact Pick.nil _ | exact Pick.tail _ | exact Out.here _ | apply Out.there | apply Pick.cons | apply Pick.drop)))) _ _⟩
        · obtain rfl : d = 0 := by omega
          clear hd0
          have hQ : ∀ {w : World} {L : List HP}, Sat w0 w L → Rd w0 L Al m 1 (I8 xs) → Calls Try.prog 76 #[.slice Al m cl] w (RetB w0 L (okServers xs)) := fun hs hr => rightServers_spec xs hxl (by omega) hs hr
          obtain ⟨ok, hok⟩ : ∃ ok, okServers xs = ok := ⟨_, rfl⟩
          rw [hok] at hQ
          have HX3 : Hid (X = if ok = false then ([], 21) else (xs, 0)) := by
            unfold Hid; rw [← HX2.out, ← hd, hok, hxl.out]; simp
          clear hd hok
          cases ok with
          | false =>
            go_wp2_with (first | (go_at_call 79; refine (hE (hs4.pick (T := RR bx p e2 r2 :: bx :: own 3 1 Al cl m (I8 xs) :: L) (by (repeat (first | exact Pick.nil _ | exact Pick.tail _ | exact Out.here _ | apply Out.there | apply Pick.cons | apply Pick.drop))))).mono ?_; rintro e' w5 ⟨rfl, hs5⟩) | (go_at_call 76; refine (hQ hs5 (by (repeat (first | assumption | exact Rd.own | exact Rd.nil | apply Rd.cons)))).mono ?_; rintro e' w6 ⟨rfl, hs6⟩) | (first | ((with_reducible apply wl_unguard); rfl) | ((with_reducible apply wl_buildSlice); assumption; rfl; (go_simp; rfl); (simp [Value.cells]); omega; intro b w1 hs1) | ((with_reducible apply wl_append); go_must (assumption; rfl; rfl; (repeat (first | exact Out.here _ | apply Out.there)); (repeat (first | assumption | exact Rd.own | exact Rd.nil | apply Rd.cons)); (first | exact B8_one _ | exact I8_one _ | (simp [Value.oneCell'])); (first | omega | (simp only [maxLen]; omega)); omega; intro A1 c1 w1 hs1 hc1; (try ((refine hs1.own_elim ?_ ?_); omega; rintro g1 rfl)); try simp only [Nat.zero_add, List.nil_append] at hs1 hc1)) | ((with_reducible apply wl_store_own); assumption; rfl; (go_simp; rfl); (repeat (first | exact Out.here _ | apply Out.there)); rfl; rfl; omega; intro w1 hs1) | ((with_reducible apply wl_store1); assumption; rfl; (go_simp; rfl); (repeat (first | exact Out.here _ | apply Out.there)); rfl; rfl; simp; intro w1 hs1; (try simp only [List.setIfInBounds_toArray] at hs1); (try simp only [List.set_cons_succ] at hs1); (try simp only [List.set_cons_zero] at hs1)) | ((with_reducible apply wl_load); assumption; rfl; (repeat (first | assumption | exact Cl.blk rfl | apply Cl.cons))) | ((with_reducible apply wl_b2s); assumption; rfl; (repeat (first | assumption | exact Rd.own | exact Rd.nil | apply Rd.cons)); first | rfl | (simp [B8_app]))) | fail)
            go_ret2
            exact ⟨none, 0, 0, by unfold Hid; rw [HX3.out]; rfl, by rw [HX3.out]; rfl, by rw [HX3.out]; exact Sat.own_nil (hs6.pick (by (repeat (first | exact Pick.nil _ | exact Pick.tail _ | exact Out.here _ | apply Out.there | apply Pick.cons | apply Pick.drop)))) _ _⟩
          | true =>
            go_wp2_with (first | (go_at_call 79; refine (hE (hs4.pick (T := RR bx p e2 r2 :: bx :: own 3 1 Al cl m (I8 xs) :: L) (by (repeat (first | exact Pick.nil _ | exact Pick.tail _ | exact Out.here _ | apply Out.there | apply Pick.cons | apply Pick.drop))))).mono ?_; rintro e' w5 ⟨rfl, hs5⟩) | (go_at_call 76; refine (hQ hs5 (by (repeat (first | assumption | exact Rd.own | exact Rd.nil | apply Rd.cons)))).mono ?_; rintro e' w6 ⟨rfl, hs6⟩) | (first | ((with_reducible apply wl_unguard); rfl) | ((with_reducible apply wl_buildSlice); assumption; rfl; (go_simp; rfl); (simp [Value.cells]); omega; intro b w1 hs1) | ((with_reducible apply wl_append); go_must (assumption; rfl; rfl; (repeat (first | exact Out.here _ | apply Out.there)); (repeat (first | assumption | exact Rd.own | exact Rd.nil | apply Rd.cons)); (first | exact B8_one _ | exact I8_one _ | (simp [Value.oneCell'])); (first | omega | (simp only [maxLen]; omega)); omega; intro A1 c1 w1 hs1 hc1; (try ((refine hs1.own_elim ?_ ?_); omega; rintro g1 rfl)); try simp only [Nat.zero_add, List.nil_append] at hs1 hc1)) | ((with_reducible apply wl_store_own); assumption; rfl; (go_simp; rfl); (repeat (first | exact Out.here _ | apply Out.there)); rfl; rfl; omega; intro w1 hs1) | ((with_reducible apply wl_store1); assumption; rfl; (go_simp; rfl); (repeat (first | exact Out.here _ | apply Out.there)); rfl; rfl; simp; intro w1 hs1; (try simp only [List.setIfInBounds_toArray] at hs1); (try simp only [List.set_cons_succ] at hs1); (try simp only [List.set_cons_zero] at hs1)) | ((with_reducible apply wl_load); assumption; rfl; (repeat (first | assumption | exact Cl.blk rfl | apply Cl.cons))) | ((with_reducible apply wl_b2s); assumption; rfl; (repeat (first | assumption | exact Rd.own | exact Rd.nil | apply Rd.cons)); first | rfl | (simp [B8_app]))) | fail)
            go_ret2
            exact ⟨Al, cl, m, by unfold Hid; rw [HX3.out]; exact hxl.out, by rw [HX3.out]; rfl, by rw [HX3.out]; exact hs6.pick (by (repeat (first | exact Pick.nil _ | exact Pick.tail _ | exact Out.here _ | apply Out.there | apply Pick.cons | apply Pick.drop)))⟩
  · have HX : Hid ((if rdEnd (rdMany 8 e r).2.1 (rdMany 8 e r).2.2 ≠ 0 ∨ v ≠ ((rdMany 8 e r).1.length : Int) ∨ okServers (rdMany 8 e r).1 = false then ([], 21) else ((rdMany 8 e r).1, 0)) = X) := by
      unfold Hid; rw [← hX]; unfold refGetServers; rw [hx]; simp only; rw [Nat.min_eq_right (by omega)]
    clear hx hX
    go_enter Try.func61, Try.ntmps61
    go_wp2_with (first | (go_at_call 77; refine (refNew_spec b hl hs hR).mono ?_; rintro e' w2 ⟨p, bx, rfl, hs2⟩) | (go_at_call 78; refine (hN (by assumption)).mono ?_; rintro e' w3 ⟨rfl, hs3⟩) | (first | ((with_reducible apply wl_unguard); rfl) | ((with_reducible apply wl_buildSlice); assumption; rfl; (go_simp; rfl); (simp [Value.cells]); omega; intro b w1 hs1) | ((with_reducible apply wl_append); go_must (assumption; rfl; rfl; (repeat (first | exact Out.here _ | apply Out.there)); (repeat (first | assumption | exact Rd.own | exact Rd.nil | apply Rd.cons)); (first | exact B8_one _ | exact I8_one _ | (simp [Value.oneCell'])); (first | omega | (simp only [maxLen]; omega)); omega; intro A1 c1 w1 hs1 hc1; (try ((refine hs1.own_elim ?_ ?_); omega; rintro g1 rfl)); try simp only [Nat.zero_add, List.nil_append] at hs1 hc1)) | ((with_reducible apply wl_store_own); assumption; rfl; (go_simp; rfl); (repeat (first | exact Out.here _ | apply Out.there)); rfl; rfl; omega; intro w1 hs1) | ((with_reducible apply wl_store1); assumption; rfl; (go_simp; rfl); (repeat (first | exact Out.here _ | apply Out.there)); rfl; rfl; simp; intro w1 hs1; (try simp only [List.setIfInBounds_toArray] at hs1); (try simp only [List.set_cons_succ] at hs1); (try simp only [List.set_cons_zero] at hs1)) | ((with_reducible apply wl_load); assumption; rfl; (repeat (first | assumption | exact Cl.blk rfl | apply Cl.cons))) | ((with_reducible apply wl_b2s); assumption; rfl; (repeat (first | assumption | exact Rd.own | exact Rd.nil | apply Rd.cons)); first | rfl | (simp [B8_app]))) | fail)
    go_loopw [6, 7] (fun l i wr => ∃ (k : Nat) (xs : List Int) (e2 : Int) (r2 : List UInt8) (Al : Option Addr) (cl : Nat), i = .int .i64 k ∧ k ≤ 8 ∧ rdMany k e r = (xs, e2, r2) ∧ l = .slice Al k cl ∧ Sat w0 wr (own 3 1 Al cl k (I8 xs) :: RR bx p e2 r2 :: bx :: L)) (fun _ i _ => 8 - (intOf i).toNat)
    case atStart => exact ⟨0, [], e, r, none, 0, rfl, Nat.zero_le _, rfl, rfl, hs3.own_nil _ _⟩
    case round =>
      obtain ⟨k, xs, e2, r2, Al, cl, rfl, hk, hm2, rfl, hs4⟩ := hrel
      have Hm2 := Hid.mk' hm2
      clear hs hs2 hs3 hm2 hrl
      by_cases hkm : k < 8
      · obtain ⟨⟨v3, e3, r3⟩, hx3⟩ : ∃ x, rdNumber e2 r2 = x := ⟨_, rfl⟩
        have hN2 : ∀ {w : World} {L : List HP} {buf : HP} {p : Nat}, Sat w0 w (RR buf p e2 r2 :: buf :: L) → Calls Try.prog 78 #[.pointer (some ⟨p, 0, none⟩)] w (fun q w' => q = .returned (.int .i64 v3) ∧ Sat w0 w' (RR buf p e3 r3 :: buf :: L)) := fun hs => by
          have := refNumberR e2 r2 hs
          rwa [hx3] at this
        have Hm3 : Hid (rdMany (k + 1) e r = (xs ++ [v3], e3, r3)) := by unfold Hid; rw [rdMany_succ, Hm2.out]; simp only; rw [hx3]
        clear hx3
        have d1 : decide ((k : Int) < v) = true := by simp; omega
        have d2 : decide ((k : Int) < 8) = true := by simp; omega
        go_wp2_with (first | (go_at_call 78; refine (hN2 (hs4.pick (T := RR bx p e2 r2 :: bx :: own 3 1 Al cl k (I8 xs) :: L) (by (repeat (first | exact Pick.nil _ | exact Pick.tail _ | exact Out.here _ | apply Out.there | apply Pick.cons | apply Pick.drop))))).mono ?_; rintro e' w5 ⟨rfl, hs5⟩) | (first | ((with_reducible apply wl_unguard); rfl) | ((with_reducible apply wl_buildSlice); assumption; rfl; (go_simp; rfl); (simp [Value.cells]); omega; intro b w1 hs1) | ((with_reducible apply wl_append); go_must (assumption; rfl; rfl; (repeat (first | exact Out.here _ | apply Out.there)); (repeat (first | assumption | exact Rd.own | exact Rd.nil | apply Rd.cons)); (first | exact B8_one _ | exact I8_one _ | (simp [Value.oneCell'])); (first | omega | (simp only [maxLen]; omega)); omega; intro A1 c1 w1 hs1 hc1; (try ((refine hs1.own_elim ?_ ?_); omega; rintro g1 rfl)); try simp only [Nat.zero_add, List.nil_append] at hs1 hc1)) | ((with_reducible apply wl_store_own); assumption; rfl; (go_simp; rfl); (repeat (first | exact Out.here _ | apply Out.there)); rfl; rfl; omega; intro w1 hs1) | ((with_reducible apply wl_store1); assumption; rfl; (go_simp; rfl); (repeat (first | exact Out.here _ | apply Out.there)); rfl; rfl; simp; intro w1 hs1; (try simp only [List.setIfInBounds_toArray] at hs1); (try simp only [List.set_cons_succ] at hs1); (try simp only [List.set_cons_zero] at hs1)) | ((with_reducible apply wl_load); assumption; rfl; (repeat (first | assumption | exact Cl.blk rfl | apply Cl.cons))) | ((with_reducible apply wl_b2s); assumption; rfl; (repeat (first | assumption | exact Rd.own | exact Rd.nil | apply Rd.cons)); first | rfl | (simp [B8_app]))) | fail)
        go_roundw
        case rel => exact ⟨k + 1, xs ++ [v3], e3, r3, _, _, by go_num, by omega, Hm3.out, by first | rfl | go_num, hs1.pick (by rw [show I8 (xs ++ [v3]) = I8 xs ++ [.int .i64 v3] from by simp [I8]]; (repeat (first | exact Pick.nil _ | exact Pick.tail _ | exact Out.here _ | apply Out.there | apply Pick.cons | apply Pick.drop)))⟩
        case measure => simp [intOf]; omega
      · obtain rfl : k = 8 := by omega
        have hxl : Hid (8 = xs.length) := by have := rdMany_length 8 e r; rw [Hm2.out] at this; exact this.symm
        have HX2 : Hid ((if rdEnd e2 r2 ≠ 0 ∨ v ≠ (xs.length : Int) ∨ okServers xs = false then ([], 21) else (xs, 0)) = X) := by have := HX.out; rw [Hm2.out] at this; exact this
        obtain ⟨d, hd⟩ : ∃ d, d = rdEnd e2 r2 := ⟨_, rfl⟩
        have hE : ∀ {w : World} {L : List HP}, Sat w0 w (RR bx p e2 r2 :: L) → Calls Try.prog 79 #[.pointer (some ⟨p, 0, none⟩)] w (fun r w' => r = .returned (.int .i64 d) ∧ Sat w0 w' (RR bx p e2 r2 :: L)) := fun hs => by rw [hd]; exact refEnd_spec hs
        by_cases hd0 : d ≠ 0
        · have HX3 : Hid (X = ([], 21)) := by unfold Hid; rw [← HX2.out, if_pos (.inl (by rw [← hd]; exact hd0))]
          have h0 : (d != 0) = true := by simp [hd0]
          clear hd hd0
          go_wp2_with (first | (go_at_call 79; refine (hE (hs4.pick (T := RR bx p e2 r2 :: bx :: own 3 1 Al cl 8 (I8 xs) :: L) (by (repeat (first | exact Pick.nil _ | exact Pick.tail _ | exact Out.here _ | apply Out.there | apply Pick.cons | apply Pick.drop))))).mono ?_; rintro e' w5 ⟨rfl, hs5⟩) | (first | ((with_reducible apply wl_unguard); rfl) | ((with_reducible apply wl_buildSlice); assumption; rfl; (go_simp; rfl); (simp [Value.cells]); omega; intro b w1 hs1) | ((with_reducible apply wl_append); go_must (assumption; rfl; rfl; (repeat (first | exact Out.here _ | apply Out.there)); (repeat (first | assumption | exact Rd.own | exact Rd.nil | apply Rd.cons)); (first | exact B8_one _ | exact I8_one _ | (simp [Value.oneCell'])); (first | omega | (simp only [maxLen]; omega)); omega; intro A1 c1 w1 hs1 hc1; (try ((refine hs1.own_elim ?_ ?_); omega; rintro g1 rfl)); try simp only [Nat.zero_add, List.nil_append] at hs1 hc1)) | ((with_reducible apply wl_store_own); assumption; rfl; (go_simp; rfl); (repeat (first | exact Out.here _ | apply Out.there)); rfl; rfl; omega; intro w1 hs1) | ((with_reducible apply wl_store1); assumption; rfl; (go_simp; rfl); (repeat (first | exact Out.here _ | apply Out.there)); rfl; rfl; simp; intro w1 hs1; (try simp only [List.setIfInBounds_toArray] at hs1); (try simp only [List.set_cons_succ] at hs1); (try simp only [List.set_cons_zero] at hs1)) | ((with_reducible apply wl_load); assumption; rfl; (repeat (first | assumption | exact Cl.blk rfl | apply Cl.cons))) | ((with_reducible apply wl_b2s); assumption; rfl; (repeat (first | assumption | exact Rd.own | exact Rd.nil | apply Rd.cons)); first | rfl | (simp [B8_app]))) | fail)
          go_ret2
          exact ⟨none, 0, 0, by unfold Hid; rw [HX3.out]; rfl, by rw [HX3.out]; rfl, by rw [HX3.out]; exact Sat.own_nil (hs5.pick (by (repeat (first | exact Pick.nil _ | exact Pick.tail _ | exact Out.here _ | apply Out.there | apply Pick.cons | apply Pick.drop)))) _ _⟩
        · obtain rfl : d = 0 := by omega
          clear hd0
          have HX3 : Hid (X = ([], 21)) := by unfold Hid; rw [← HX2.out, if_pos (.inr (.inl (by have := hxl.out; omega)))]
          have h8 : ((v != 8) : Bool) = true := by simp; omega
          clear hd
          go_wp2_with (first | (go_at_call 79; refine (hE (hs4.pick (T := RR bx p e2 r2 :: bx :: own 3 1 Al cl 8 (I8 xs) :: L) (by (repeat (first | exact Pick.nil _ | exact Pick.tail _ | exact Out.here _ | apply Out.there | apply Pick.cons | apply Pick.drop))))).mono ?_; rintro e' w5 ⟨rfl, hs5⟩) | (first | ((with_reducible apply wl_unguard); rfl) | ((with_reducible apply wl_buildSlice); assumption; rfl; (go_simp; rfl); (simp [Value.cells]); omega; intro b w1 hs1) | ((with_reducible apply wl_append); go_must (assumption; rfl; rfl; (repeat (first | exact Out.here _ | apply Out.there)); (repeat (first | assumption | exact Rd.own | exact Rd.nil | apply Rd.cons)); (first | exact B8_one _ | exact I8_one _ | (simp [Value.oneCell'])); (first | omega | (simp only [maxLen]; omega)); omega; intro A1 c1 w1 hs1 hc1; (try ((refine hs1.own_elim ?_ ?_); omega; rintro g1 rfl)); try simp only [Nat.zero_add, List.nil_append] at hs1 hc1)) | ((with_reducible apply wl_store_own); assumption; rfl; (go_simp; rfl); (repeat (first | exact Out.here _ | apply Out.there)); rfl; rfl; omega; intro w1 hs1) | ((with_reducible apply wl_store1); assumption; rfl; (go_simp; rfl); (repeat (first | exact Out.here _ | apply Out.there)); rfl; rfl; simp; intro w1 hs1; (try simp only [List.setIfInBounds_toArray] at hs1); (try simp only [List.set_cons_succ] at hs1); (try simp only [List.set_cons_zero] at hs1)) | ((with_reducible apply wl_load); assumption; rfl; (repeat (first | assumption | exact Cl.blk rfl | apply Cl.cons))) | ((with_reducible apply wl_b2s); assumption; rfl; (repeat (first | assumption | exact Rd.own | exact Rd.nil | apply Rd.cons)); first | rfl | (simp [B8_app]))) | fail)
          go_ret2
          exact ⟨none, 0, 0, by unfold Hid; rw [HX3.out]; rfl, by rw [HX3.out]; rfl, by rw [HX3.out]; exact Sat.own_nil (hs5.pick (by (repeat (first | exact Pick.nil _ | exact Pick.tail _ | exact Out.here _ | apply Out.there | apply Pick.cons | apply Pick.drop)))) _ _⟩

theorem refGetServers_spec {w0 w : World} {L : List HP} {A : Option Addr} {c : Nat} (b : List UInt8) (hl : b.length ≤ 4294967296) (hs : Sat w0 w L) (hR : Rd w0 L A b.length 1 (B8 b)) :
    Calls Try.prog 61 #[.slice A b.length c] w (RetI w0 L (getServers b)) := by
  rw [← getServers_eq]
  exact refGetServers_spec' b hl hs hR
end Go.Proofs.Ytcpcdhlfdabbnaa
