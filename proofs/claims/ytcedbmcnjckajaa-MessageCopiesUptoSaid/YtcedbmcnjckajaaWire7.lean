/-
  wire.Reader: New, Left, Err, End, Bytes.
-/
import Derived.Test.YtcedbmcnjckajaaWire6
namespace Go.Proofs.Ytcedbmcnjckajaa
open Go Go.RowKit Sl Go.Shelf
attribute [local go_sem] Oper.semAt_some

theorem rdNumber_ok {e : Int} {l l2 : List UInt8} {v e2 : Int} (h : rdNumber e l = (v, e2, l2)) : 0 ≤ v ∧ (e2 ≠ 0 → v = 0) ∧ l2.length ≤ l.length ∧ v < 281474976710656 := by
  unfold rdNumber at h
  split at h
  · cases h; simp
  · split at h
    · cases h; simp
    · rename_i c r
      split at h
      · cases h; simp
      · split at h
        · cases h; simp
        · split at h
          · cases h; simp
          · rename_i h6 _ _
            cases h
            have h1 := val_lt (r.take c.toNat)
            have h2 : 256 ^ (r.take c.toNat).length ≤ 256 ^ 6 := Nat.pow_le_pow_right (by omega) (by simp; omega)
            refine ⟨by omega, by simp, by simp; omega, by omega⟩

/-- What Bytes does. -/
def rdBytes (e : Int) (l : List UInt8) : List UInt8 × Int × List UInt8 :=
  let x := rdNumber e l
  if x.2.1 ≠ 0 then ([], x.2.1, l)
  else if 1048576 < x.1 then ([], 21, l)
  else if (x.2.2.length : Int) < x.1 then ([], 20, l)
  else (x.2.2.take x.1.toNat, 0, x.2.2.drop x.1.toNat)

/-- What End answers. -/
def rdEnd (e : Int) (l : List UInt8) : Int := if e ≠ 0 then e else if 0 < l.length then 21 else 0

/-- A new reader. -/
def RetNew (w0 : World) (L : List HP) (l : List UInt8) (r : Ending) (w' : World) : Prop := ∃ p buf, r = .returned (.pointer (some ⟨p, 0, none⟩)) ∧ Sat w0 w' (Rd1 buf p 0 l :: buf :: L)

set_option maxHeartbeats 400000 in
theorem new_spec {w0 w : World} {L : List HP} {A : Option Addr} {c : Nat} (l : List UInt8) (hl : l.length ≤ 4294967296) (hs : Sat w0 w L) (hR : Rd w0 L A l.length 1 (B8 l)) :
    Calls Try.prog 42 #[.slice A l.length c] w (RetNew w0 L l) := by
  go_enter Try.func42, Try.ntmps42
  go_wp2_with (first | (go_at_call 39; refine (clone_spec l hl hs hR).mono ?_; rintro e' w2 ⟨A2, c2, rfl, hs2⟩) | ((with_reducible apply wl_box); assumption; (go_simp; rfl); intro b w1 hs1; simp only [Value.cells] at hs1) | (first | ((with_reducible apply wl_unguard); rfl) | ((with_reducible apply wl_buildSlice); assumption; rfl; (go_simp; rfl); (simp [Value.cells]); omega; intro b w1 hs1) | ((with_reducible apply wl_append); go_must (assumption; rfl; rfl; (repeat (first | exact Out.here _ | apply Out.there)); (repeat (first | assumption | exact Rd.own | exact Rd.nil | apply Rd.cons)); (first | exact B8_one _ | exact I8_one _ | (simp [Value.oneCell'])); (first | omega | (simp only [maxLen]; omega)); omega; intro A1 c1 w1 hs1 hc1; (try ((refine hs1.own_elim ?_ ?_); omega; rintro g1 rfl)); try simp only [Nat.zero_add, List.nil_append] at hs1 hc1)) | ((with_reducible apply wl_store_own); assumption; rfl; (go_simp; rfl); (repeat (first | exact Out.here _ | apply Out.there)); rfl; rfl; omega; intro w1 hs1) | ((with_reducible apply wl_store1); assumption; rfl; (go_simp; rfl); (repeat (first | exact Out.here _ | apply Out.there)); rfl; rfl; simp; intro w1 hs1; (try simp only [List.setIfInBounds_toArray] at hs1); (try simp only [List.set_cons_succ] at hs1); (try simp only [List.set_cons_zero] at hs1)) | ((with_reducible apply wl_load); assumption; rfl; (repeat (first | assumption | exact Cl.blk rfl | apply Cl.cons))) | ((with_reducible apply wl_b2s); assumption; rfl; (repeat (first | assumption | exact Rd.own | exact Rd.nil | apply Rd.cons)); first | rfl | (simp [B8_app]))) | fail)
  go_ret
  exact ⟨_, _, rfl, Rd1.made rfl (hs2.own_cap) (fun w0 L => Rd.own) hs1⟩

theorem err_spec {w0 w : World} {L : List HP} {buf : HP} {p : Nat} {e : Int} {l : List UInt8} (hs : Sat w0 w (Rd1 buf p e l :: L)) :
    Calls Try.prog 65 #[.pointer (some ⟨p, 0, none⟩)] w fun r w' => r = .returned (.int .i64 e) ∧ w = w' := by
  obtain ⟨A, c, hc, hR, hs1⟩ := Rd1.opened hs
  go_enter Try.func65, Try.ntmps65
  go_wp2_with (first | (go_at_call 60; refine (none_spec hs1 (.here _)).mono ?_; rintro e' w' ⟨rfl, rfl⟩) | (first | ((with_reducible apply wl_unguard); rfl) | ((with_reducible apply wl_buildSlice); assumption; rfl; (go_simp; rfl); (simp [Value.cells]); omega; intro b w1 hs1) | ((with_reducible apply wl_append); go_must (assumption; rfl; rfl; (repeat (first | exact Out.here _ | apply Out.there)); (repeat (first | assumption | exact Rd.own | exact Rd.nil | apply Rd.cons)); (first | exact B8_one _ | exact I8_one _ | (simp [Value.oneCell'])); (first | omega | (simp only [maxLen]; omega)); omega; intro A1 c1 w1 hs1 hc1; (try ((refine hs1.own_elim ?_ ?_); omega; rintro g1 rfl)); try simp only [Nat.zero_add, List.nil_append] at hs1 hc1)) | ((with_reducible apply wl_store_own); assumption; rfl; (go_simp; rfl); (repeat (first | exact Out.here _ | apply Out.there)); rfl; rfl; omega; intro w1 hs1) | ((with_reducible apply wl_store1); assumption; rfl; (go_simp; rfl); (repeat (first | exact Out.here _ | apply Out.there)); rfl; rfl; simp; intro w1 hs1; (try simp only [List.setIfInBounds_toArray] at hs1); (try simp only [List.set_cons_succ] at hs1); (try simp only [List.set_cons_zero] at hs1)) | ((with_reducible apply wl_load); assumption; rfl; (repeat (first | assumption | exact Cl.blk rfl | apply Cl.cons))) | ((with_reducible apply wl_b2s); assumption; rfl; (repeat (first | assumption | exact Rd.own | exact Rd.nil | apply Rd.cons)); first | rfl | (simp [B8_app]))) | fail)
  go_ret
  exact ⟨rfl, rfl⟩

theorem end_spec {w0 w : World} {L : List HP} {buf : HP} {p : Nat} {e : Int} {l : List UInt8} (hs : Sat w0 w (Rd1 buf p e l :: L)) :
    Calls Try.prog 47 #[.pointer (some ⟨p, 0, none⟩)] w fun r w' => r = .returned (.int .i64 (rdEnd e l)) ∧ w = w' := by
  obtain ⟨A, c, hc, hR, hs1⟩ := Rd1.opened hs
  unfold rdEnd
  by_cases he : e ≠ 0
  · have h0 : (e != 0) = true := by simp [he]
    rw [if_pos he]
    go_enter Try.func47, Try.ntmps47
    go_wp2_with (first | (go_at_call 65; refine (err_spec hs).mono ?_; rintro e' w' ⟨rfl, rfl⟩) | (first | ((with_reducible apply wl_unguard); rfl) | ((with_reducible apply wl_buildSlice); assumption; rfl; (go_simp; rfl); (simp [Value.cells]); omega; intro b w1 hs1) | ((with_reducible apply wl_append); go_must (assumption; rfl; rfl; (repeat (first | exact Out.here _ | apply Out.there)); (repeat (first | assumption | exact Rd.own | exact Rd.nil | apply Rd.cons)); (first | exact B8_one _ | exact I8_one _ | (simp [Value.oneCell'])); (first | omega | (simp only [maxLen]; omega)); omega; intro A1 c1 w1 hs1 hc1; (try ((refine hs1.own_elim ?_ ?_); omega; rintro g1 rfl)); try simp only [Nat.zero_add, List.nil_append] at hs1 hc1)) | ((with_reducible apply wl_store_own); assumption; rfl; (go_simp; rfl); (repeat (first | exact Out.here _ | apply Out.there)); rfl; rfl; omega; intro w1 hs1) | ((with_reducible apply wl_store1); assumption; rfl; (go_simp; rfl); (repeat (first | exact Out.here _ | apply Out.there)); rfl; rfl; simp; intro w1 hs1; (try simp only [List.setIfInBounds_toArray] at hs1); (try simp only [List.set_cons_succ] at hs1); (try simp only [List.set_cons_zero] at hs1)) | ((with_reducible apply wl_load); assumption; rfl; (repeat (first | assumption | exact Cl.blk rfl | apply Cl.cons))) | ((with_reducible apply wl_b2s); assumption; rfl; (repeat (first | assumption | exact Rd.own | exact Rd.nil | apply Rd.cons)); first | rfl | (simp [B8_app]))) | fail)
    go_ret
    exact ⟨rfl, rfl⟩
  · obtain rfl : e = 0 := by omega
    rw [if_neg he]
    by_cases hl : 0 < l.length
    all_goals
      first | rw [if_pos hl] | rw [if_neg hl]
      go_enter Try.func47, Try.ntmps47
      go_wp2_with (first | (go_at_call 65; refine (err_spec hs).mono ?_; rintro e' w' ⟨rfl, rfl⟩) | (first | ((with_reducible apply wl_unguard); rfl) | ((with_reducible apply wl_buildSlice); assumption; rfl; (go_simp; rfl); (simp [Value.cells]); omega; intro b w1 hs1) | ((with_reducible apply wl_append); go_must (assumption; rfl; rfl; (repeat (first | exact Out.here _ | apply Out.there)); (repeat (first | assumption | exact Rd.own | exact Rd.nil | apply Rd.cons)); (first | exact B8_one _ | exact I8_one _ | (simp [Value.oneCell'])); (first | omega | (simp only [maxLen]; omega)); omega; intro A1 c1 w1 hs1 hc1; (try ((refine hs1.own_elim ?_ ?_); omega; rintro g1 rfl)); try simp only [Nat.zero_add, List.nil_append] at hs1 hc1)) | ((with_reducible apply wl_store_own); assumption; rfl; (go_simp; rfl); (repeat (first | exact Out.here _ | apply Out.there)); rfl; rfl; omega; intro w1 hs1) | ((with_reducible apply wl_store1); assumption; rfl; (go_simp; rfl); (repeat (first | exact Out.here _ | apply Out.there)); rfl; rfl; simp; intro w1 hs1; (try simp only [List.setIfInBounds_toArray] at hs1); (try simp only [List.set_cons_succ] at hs1); (try simp only [List.set_cons_zero] at hs1)) | ((with_reducible apply wl_load); assumption; rfl; (repeat (first | assumption | exact Cl.blk rfl | apply Cl.cons))) | ((with_reducible apply wl_b2s); assumption; rfl; (repeat (first | assumption | exact Rd.own | exact Rd.nil | apply Rd.cons)); first | rfl | (simp [B8_app]))) | fail)
      go_ret
      exact ⟨rfl, rfl⟩

theorem win_take {A A' : Option Addr} {n k : Nat} {l : List UInt8} {w0 : World} {L : List HP} (hw : Win A A' n 0 k) (hR : Rd w0 L A n 1 (B8 l)) : Rd w0 L A' k 1 (B8 (l.take k)) := by
  have := hw _ _ _ hR
  simpa [B8] using this

theorem win_drop {A A' : Option Addr} {n k : Nat} {l : List UInt8} {w0 : World} {L : List HP} (hn : n = l.length) (hw : Win A A' n k n) (hR : Rd w0 L A n 1 (B8 l)) : Rd w0 L A' (n - k) 1 (B8 (l.drop k)) := by
  have := hw _ _ _ hR
  subst hn
  simpa [B8, List.take_of_length_le] using this

theorem clone_to {w0 w : World} {L : List HP} {A : Option Addr} {c : Nat} (n : Nat) (l : List UInt8) (hn : Hid (l.length = n)) (hl : n ≤ 4294967296) (hs : Sat w0 w L) (hR : Rd w0 L A n 1 (B8 l)) :
    Calls Try.prog 39 #[.slice A n c] w (fun r w' => ∃ A' c', r = .returned (.slice A' n c') ∧ Sat w0 w' (own 5 1 A' c' n (B8 l) :: L)) := by
  have hn := hn.out
  subst hn
  exact clone_spec l hl hs hR

set_option maxHeartbeats 2000000 in
theorem bytes_read {w0 w : World} {L : List HP} {buf : HP} {p : Nat} (e : Int) (l : List UInt8) (hl : l.length ≤ 4294967296) (hs : Sat w0 w (Rd1 buf p e l :: buf :: L)) :
    Calls Try.prog 45 #[.pointer (some ⟨p, 0, none⟩)] w (RetS w0 (Rd1 buf p (rdBytes e l).2.1 (rdBytes e l).2.2 :: buf :: L) (rdBytes e l).1) := by
  obtain ⟨A, c, hc, hR, hs1⟩ := Rd1.opened hs
  by_cases he : e ≠ 0
  · have e1 : rdBytes e l = ([], e, l) := by simp [rdBytes, rdNumber, he]
    have h0 : (e == 0) = false := by simp [he]
    rw [e1]; clear e1 he
    go_enter Try.func45, Try.ntmps45
    go_wp2_with (first | (go_at_call 60; refine (none_spec hs1 (.here _)).mono ?_; rintro e' w' ⟨rfl, rfl⟩) | (go_at_call 61; refine (fok_spec hs1 (.here _) rfl).mono ?_; rintro e' w' ⟨rfl, rfl⟩) | (first | ((with_reducible apply wl_unguard); rfl) | ((with_reducible apply wl_buildSlice); assumption; rfl; (go_simp; rfl); (simp [Value.cells]); omega; intro b w1 hs1) | ((with_reducible apply wl_append); go_must (assumption; rfl; rfl; (repeat (first | exact Out.here _ | apply Out.there)); (repeat (first | assumption | exact Rd.own | exact Rd.nil | apply Rd.cons)); (first | exact B8_one _ | exact I8_one _ | (simp [Value.oneCell'])); (first | omega | (simp only [maxLen]; omega)); omega; intro A1 c1 w1 hs1 hc1; (try ((refine hs1.own_elim ?_ ?_); omega; rintro g1 rfl)); try simp only [Nat.zero_add, List.nil_append] at hs1 hc1)) | ((with_reducible apply wl_store_own); assumption; rfl; (go_simp; rfl); (repeat (first | exact Out.here _ | apply Out.there)); rfl; rfl; omega; intro w1 hs1) | ((with_reducible apply wl_store1); assumption; rfl; (go_simp; rfl); (repeat (first | exact Out.here _ | apply Out.there)); rfl; rfl; simp; intro w1 hs1; (try simp only [List.setIfInBounds_toArray] at hs1); (try simp only [List.set_cons_succ] at hs1); (try simp only [List.set_cons_zero] at hs1)) | ((with_reducible apply wl_load); assumption; rfl; (repeat (first | assumption | exact Cl.blk rfl | apply Cl.cons))) | ((with_reducible apply wl_b2s); assumption; rfl; (repeat (first | assumption | exact Rd.own | exact Rd.nil | apply Rd.cons)); first | rfl | (simp [B8_app]))) | fail)
    go_ret
    exact ⟨none, 0, rfl, Sat.own_nil (Rd1.made rfl hc hR hs1) _ _⟩
  · obtain rfl : e = 0 := by omega
    clear he
    obtain ⟨⟨v, e2, l2⟩, hx⟩ : ∃ x, rdNumber 0 l = x := ⟨_, rfl⟩
    obtain ⟨hv0, hv, hl2, hv48⟩ := rdNumber_ok hx
    have hN := number_read (p := p) (buf := buf) 0 l hl hs
    rw [hx] at hN
    by_cases he2 : e2 ≠ 0
    · have e1 : rdBytes 0 l = ([], e2, l) := by simp [rdBytes, hx, he2]
      have h0 : (e2 == 0) = false := by simp [he2]
      obtain rfl := hv he2
      rw [e1]; clear e1 hx hv
      go_enter Try.func45, Try.ntmps45
      go_wp2_with (first | (go_at_call 60; refine (none_spec hs1 (.here _)).mono ?_; rintro e' w' ⟨rfl, rfl⟩) | (go_at_call 61; refine (fok_spec (by assumption) (.here _) rfl).mono ?_; rintro e' w' ⟨rfl, rfl⟩) | (go_at_call 43; refine hN.mono ?_; rintro e' w2 ⟨rfl, hs2⟩; obtain ⟨A2, c2, hc2, hR2, hs3⟩ := Rd1.opened hs2; clear hs2) | (first | ((with_reducible apply wl_unguard); rfl) | ((with_reducible apply wl_buildSlice); assumption; rfl; (go_simp; rfl); (simp [Value.cells]); omega; intro b w1 hs1) | ((with_reducible apply wl_append); go_must (assumption; rfl; rfl; (repeat (first | exact Out.here _ | apply Out.there)); (repeat (first | assumption | exact Rd.own | exact Rd.nil | apply Rd.cons)); (first | exact B8_one _ | exact I8_one _ | (simp [Value.oneCell'])); (first | omega | (simp only [maxLen]; omega)); omega; intro A1 c1 w1 hs1 hc1; (try ((refine hs1.own_elim ?_ ?_); omega; rintro g1 rfl)); try simp only [Nat.zero_add, List.nil_append] at hs1 hc1)) | ((with_reducible apply wl_store_own); assumption; rfl; (go_simp; rfl); (repeat (first | exact Out.here _ | apply Out.there)); rfl; rfl; omega; intro w1 hs1) | ((with_reducible apply wl_store1); assumption; rfl; (go_simp; rfl); (repeat (first | exact Out.here _ | apply Out.there)); rfl; rfl; simp; intro w1 hs1; (try simp only [List.setIfInBounds_toArray] at hs1); (try simp only [List.set_cons_succ] at hs1); (try simp only [List.set_cons_zero] at hs1)) | ((with_reducible apply wl_load); assumption; rfl; (repeat (first | assumption | exact Cl.blk rfl | apply Cl.cons))) | ((with_reducible apply wl_b2s); assumption; rfl; (repeat (first | assumption | exact Rd.own | exact Rd.nil | apply Rd.cons)); first | rfl | (simp [B8_app]))) | fail)
      go_ret
      exact ⟨none, 0, rfl, Sat.own_nil (Rd1.made rfl hc hR hs1) _ _⟩
    · obtain rfl : e2 = 0 := by omega
      by_cases hb : 1048576 < v
      · have e1 : rdBytes 0 l = ([], 21, l) := by simp [rdBytes, hx, hb]
        rw [e1]; clear e1 hx hv he2
        go_enter Try.func45, Try.ntmps45
        go_wp2_with (first | (go_at_call 60; refine (none_spec hs1 (.here _)).mono ?_; rintro e' w' ⟨rfl, rfl⟩) | (go_at_call 61; refine (fok_spec (by assumption) (.here _) rfl).mono ?_; rintro e' w' ⟨rfl, rfl⟩) | (go_at_call 62; refine (fset_spec hs3 (.here _)).mono ?_; rintro e' w4 ⟨rfl, hs4⟩; simp only [if_true] at hs4) | (go_at_call 43; refine hN.mono ?_; rintro e' w2 ⟨rfl, hs2⟩; obtain ⟨A2, c2, hc2, hR2, hs3⟩ := Rd1.opened hs2; clear hs2) | (first | ((with_reducible apply wl_unguard); rfl) | ((with_reducible apply wl_buildSlice); assumption; rfl; (go_simp; rfl); (simp [Value.cells]); omega; intro b w1 hs1) | ((with_reducible apply wl_append); go_must (assumption; rfl; rfl; (repeat (first | exact Out.here _ | apply Out.there)); (repeat (first | assumption | exact Rd.own | exact Rd.nil | apply Rd.cons)); (first | exact B8_one _ | exact I8_one _ | (simp [Value.oneCell'])); (first | omega | (simp only [maxLen]; omega)); omega; intro A1 c1 w1 hs1 hc1; (try ((refine hs1.own_elim ?_ ?_); omega; rintro g1 rfl)); try simp only [Nat.zero_add, List.nil_append] at hs1 hc1)) | ((with_reducible apply wl_store_own); assumption; rfl; (go_simp; rfl); (repeat (first | exact Out.here _ | apply Out.there)); rfl; rfl; omega; intro w1 hs1) | ((with_reducible apply wl_store1); assumption; rfl; (go_simp; rfl); (repeat (first | exact Out.here _ | apply Out.there)); rfl; rfl; simp; intro w1 hs1; (try simp only [List.setIfInBounds_toArray] at hs1); (try simp only [List.set_cons_succ] at hs1); (try simp only [List.set_cons_zero] at hs1)) | ((with_reducible apply wl_load); assumption; rfl; (repeat (first | assumption | exact Cl.blk rfl | apply Cl.cons))) | ((with_reducible apply wl_b2s); assumption; rfl; (repeat (first | assumption | exact Rd.own | exact Rd.nil | apply Rd.cons)); first | rfl | (simp [B8_app]))) | fail)
        go_ret
        exact ⟨none, 0, rfl, Sat.own_nil (Rd1.made rfl hc hR hs1) _ _⟩
      by_cases hb2 : (l2.length : Int) < v
      · have e1 : rdBytes 0 l = ([], 20, l) := by simp [rdBytes, hx, hb, hb2]
        rw [e1]; clear e1 hx hv he2
        go_enter Try.func45, Try.ntmps45
        go_wp2_with (first | (go_at_call 60; refine (none_spec hs1 (.here _)).mono ?_; rintro e' w' ⟨rfl, rfl⟩) | (go_at_call 61; refine (fok_spec (by assumption) (.here _) rfl).mono ?_; rintro e' w' ⟨rfl, rfl⟩) | (go_at_call 62; refine (fset_spec hs3 (.here _)).mono ?_; rintro e' w4 ⟨rfl, hs4⟩; simp only [if_true] at hs4) | (go_at_call 43; refine hN.mono ?_; rintro e' w2 ⟨rfl, hs2⟩; obtain ⟨A2, c2, hc2, hR2, hs3⟩ := Rd1.opened hs2; clear hs2) | (first | ((with_reducible apply wl_unguard); rfl) | ((with_reducible apply wl_buildSlice); assumption; rfl; (go_simp; rfl); (simp [Value.cells]); omega; intro b w1 hs1) | ((with_reducible apply wl_append); go_must (assumption; rfl; rfl; (repeat (first | exact Out.here _ | apply Out.there)); (repeat (first | assumption | exact Rd.own | exact Rd.nil | apply Rd.cons)); (first | exact B8_one _ | exact I8_one _ | (simp [Value.oneCell'])); (first | omega | (simp only [maxLen]; omega)); omega; intro A1 c1 w1 hs1 hc1; (try ((refine hs1.own_elim ?_ ?_); omega; rintro g1 rfl)); try simp only [Nat.zero_add, List.nil_append] at hs1 hc1)) | ((with_reducible apply wl_store_own); assumption; rfl; (go_simp; rfl); (repeat (first | exact Out.here _ | apply Out.there)); rfl; rfl; omega; intro w1 hs1) | ((with_reducible apply wl_store1); assumption; rfl; (go_simp; rfl); (repeat (first | exact Out.here _ | apply Out.there)); rfl; rfl; simp; intro w1 hs1; (try simp only [List.setIfInBounds_toArray] at hs1); (try simp only [List.set_cons_succ] at hs1); (try simp only [List.set_cons_zero] at hs1)) | ((with_reducible apply wl_load); assumption; rfl; (repeat (first | assumption | exact Cl.blk rfl | apply Cl.cons))) | ((with_reducible apply wl_b2s); assumption; rfl; (repeat (first | assumption | exact Rd.own | exact Rd.nil | apply Rd.cons)); first | rfl | (simp [B8_app]))) | fail)
        go_ret
        exact ⟨none, 0, rfl, Sat.own_nil (Rd1.made rfl hc hR hs1) _ _⟩
      · have e1 : rdBytes 0 l = (l2.take v.toNat, 0, l2.drop v.toNat) := by simp [rdBytes, hx, hb, hb2]
        have Hv : Hid (v = ((v.toNat : Nat) : Int)) := (Int.toNat_of_nonneg hv0).symm
        have hn : (l2.take v.toNat).length = v.toNat := by simp; omega
        have hnl : v.toNat ≤ l2.length := by omega
        have hnb : v.toNat ≤ 1048576 := by omega
        rw [e1]; clear e1 hx hv he2
        generalize v.toNat = n at *
        have Hn : Hid ((l2.take n).length = n) := hn
        clear hn
        go_enter Try.func45, Try.ntmps45
        go_wp2_with (first | (go_at_call 60; refine (none_spec hs1 (.here _)).mono ?_; rintro e' w' ⟨rfl, rfl⟩) | (go_at_call 61; refine (fok_spec (by assumption) (.here _) rfl).mono ?_; rintro e' w' ⟨rfl, rfl⟩) | (go_at_call 62; refine (fset_spec hs3 (.here _)).mono ?_; rintro e' w4 ⟨rfl, hs4⟩; simp only [if_true] at hs4) | (go_at_call 43; refine hN.mono ?_; rintro e' w2 ⟨rfl, hs2⟩; obtain ⟨A2, c2, hc2, hR2, hs3⟩ := Rd1.opened hs2; clear hs2) | ((with_reducible apply wl_sliceHi (k := n)); go_must (rfl; rfl; exact Hv.out; omega; omega; intro A3 hw3)) | ((with_reducible apply wl_sliceLo (l := n)); go_must (rfl; rfl; exact Hv.out; omega; omega; intro A5 hw5)) | (go_at_call 39; refine (clone_to n (l2.take n) (by assumption) (by omega) hs3 (win_take hw3 (hR2 _ _)).cons).mono ?_; rintro e' w5 ⟨A4, c4, rfl, hs5⟩) | (first | ((with_reducible apply wl_unguard); rfl) | ((with_reducible apply wl_buildSlice); assumption; rfl; (go_simp; rfl); (simp [Value.cells]); omega; intro b w1 hs1) | ((with_reducible apply wl_append); go_must (assumption; rfl; rfl; (repeat (first | exact Out.here _ | apply Out.there)); (repeat (first | assumption | exact Rd.own | exact Rd.nil | apply Rd.cons)); (first | exact B8_one _ | exact I8_one _ | (simp [Value.oneCell'])); (first | omega | (simp only [maxLen]; omega)); omega; intro A1 c1 w1 hs1 hc1; (try ((refine hs1.own_elim ?_ ?_); omega; rintro g1 rfl)); try simp only [Nat.zero_add, List.nil_append] at hs1 hc1)) | ((with_reducible apply wl_store_own); assumption; rfl; (go_simp; rfl); (repeat (first | exact Out.here _ | apply Out.there)); rfl; rfl; omega; intro w1 hs1) | ((with_reducible apply wl_store1); assumption; rfl; (go_simp; rfl); (repeat (first | exact Out.here _ | apply Out.there)); rfl; rfl; simp; intro w1 hs1; (try simp only [List.setIfInBounds_toArray] at hs1); (try simp only [List.set_cons_succ] at hs1); (try simp only [List.set_cons_zero] at hs1)) | ((with_reducible apply wl_load); assumption; rfl; (repeat (first | assumption | exact Cl.blk rfl | apply Cl.cons))) | ((with_reducible apply wl_b2s); assumption; rfl; (repeat (first | assumption | exact Rd.own | exact Rd.nil | apply Rd.cons)); first | rfl | (simp [B8_app]))) | fail)
        go_ret
        exact RetS.mk (Rd1.made (l := l2.drop n) (by simp) (by simp; omega) (fun w0 L => by have := win_drop rfl hw5 (hR2 w0 L); rwa [List.length_drop]) hs1) (by (repeat (first | exact Pick.nil _ | exact Pick.tail _ | exact Out.here _ | apply Out.there | apply Pick.cons | apply Pick.drop))) rfl Hn.out.symm
end Go.Proofs.Ytcedbmcnjckajaa
