/-
  hustingsref03.Reader: New, Left, Number.
-/
import Derived.Test.YtcpcdhlfdabbnaaWire7
import Derived.Test.YtcpcdhlfdabbnaaSlOpsSt
namespace Go.Proofs.Ytcpcdhlfdabbnaa
open Go Go.RowKit Sl Go.Shelf

theorem refLeft_spec {w0 w : World} {L : List HP} {q n c : Nat} {at_ : Nat} {A : Option Addr} (hn : n ≤ 4294967296) (hat : at_ ≤ n) (hs : Sat w0 w L) (h0 : Cl w0 L ⟨q, 0, none⟩ (.slice A n c)) (h1 : Cl w0 L ⟨q, 1, none⟩ (.int .i64 at_)) :
    Calls Try.prog 94 #[.pointer (some ⟨q, 0, none⟩)] w fun r w' => r = .returned (.int .i64 ((n - at_ : Nat) : Int)) ∧ Sat w0 w' L := by
  unfold Cl at h0 h1
  go_enter Try.func94, Try.ntmps94
  go_wp2
  have i0 : IntKind.i64.wrap ((n : Int) - (at_ : Int)) = ((n - at_ : Nat) : Int) := by rw [show (n : Int) - (at_ : Int) = ((n - at_ : Nat) : Int) from by omega]; exact IntWalk.i64_in _ (by omega)
  go_region_held3 (fun w' => Sat w0 w' L) (first | assumption | (apply Sat.drew; assumption)) (fail)
  all_goals go_wp2
  all_goals go_ret
  all_goals exact ⟨rfl, by assumption⟩

/-- The reader's own cells. -/
def RB (q : Nat) (A : Option Addr) (n c at_ : Nat) (e : Int) : HP := blk q (.cells #[.slice A n c, .int .i64 at_, .int .i64 e] 132 (0, 0))

/-- The reader at q has answered v; it stands at another place, and has the error e. -/
def RetRN (w0 : World) (L : List HP) (buf : HP) (q : Nat) (A : Option Addr) (c : Nat) (B : List UInt8) (x : Int × Int × List UInt8) (r : Ending) (w' : World) : Prop :=
  ∃ at_, at_ ≤ B.length ∧ B.drop at_ = x.2.2 ∧ r = .returned (.int .i64 x.1) ∧ Sat w0 w' (RB q A B.length c at_ x.2.1 :: buf :: L)

set_option maxHeartbeats 2000000 in
theorem refNumber_read {w0 w : World} {L : List HP} {buf : HP} {q c at_ : Nat} {A : Option Addr} (e : Int) (B : List UInt8) (hB : B.length ≤ 4294967296) (hat : at_ ≤ B.length)
    (hR : ∀ w0 L, Rd w0 (buf :: L) A B.length 1 (B8 B)) (hs : Sat w0 w (RB q A B.length c at_ e :: buf :: L)) :
    Calls Try.prog 78 #[.pointer (some ⟨q, 0, none⟩)] w (RetRN w0 L buf q A c B (rdNumber e (B.drop at_))) := by
  unfold RB at hs
  by_cases he : e ≠ 0
  · have e1 : rdNumber e (B.drop at_) = (0, e, B.drop at_) := by unfold rdNumber; rw [if_pos he]
    have h0 : (e != 0) = true := by simp [he]
    rw [e1]; clear e1 he
    go_enter Try.func78, Try.ntmps78
    go_wp2_with (first | ((with_reducible apply wl_unguard); rfl) | ((with_reducible apply wl_buildSlice); assumption; rfl; (go_simp; rfl); (simp [Value.cells]); omega; intro b w1 hs1) | ((with_reducible apply wl_append); go_must (assumption; rfl; rfl; (repeat (first | exact Out.here _ | apply Out.there)); (repeat (first | assumption | exact Rd.own | exact Rd.nil | apply Rd.cons)); (first | exact B8_one _ | exact I8_one _ | (simp [Value.oneCell'])); (first | omega | (simp only [maxLen]; omega)); omega; intro A1 c1 w1 hs1 hc1; (try ((refine hs1.own_elim ?_ ?_); omega; rintro g1 rfl)); try simp only [Nat.zero_add, List.nil_append] at hs1 hc1)) | ((with_reducible apply wl_store_own); assumption; rfl; (go_simp; rfl); (repeat (first | exact Out.here _ | apply Out.there)); rfl; rfl; omega; intro w1 hs1) | ((with_reducible apply wl_store1); assumption; rfl; (go_simp; rfl); (repeat (first | exact Out.here _ | apply Out.there)); rfl; rfl; simp; intro w1 hs1; (try simp only [List.setIfInBounds_toArray] at hs1); (try simp only [List.set_cons_succ] at hs1); (try simp only [List.set_cons_zero] at hs1)) | ((with_reducible apply wl_load); assumption; rfl; (repeat (first | assumption | exact Cl.blk rfl | apply Cl.cons))) | ((with_reducible apply wl_b2s); assumption; rfl; (repeat (first | assumption | exact Rd.own | exact Rd.nil | apply Rd.cons)); first | rfl | (simp [B8_app])))
    go_ret
    exact ⟨at_, hat, rfl, rfl, hs⟩
  obtain rfl : e = 0 := by omega
  clear he
  by_cases hz : at_ = B.length
  · have e1 : rdNumber 0 (B.drop at_) = (0, 20, B.drop at_) := by rw [hz, List.drop_length]; simp [rdNumber]
    rw [e1]; clear e1
    have hz2 : B.length - at_ < 1 := by omega
    clear hz
    go_enter Try.func78, Try.ntmps78
    go_wp2_with (first | (go_at_call 94; refine (refLeft_spec hB hat hs (Cl.blk rfl) (Cl.blk rfl)).mono ?_; rintro e' w' ⟨rfl, hs2⟩; clear hs) | (first | ((with_reducible apply wl_unguard); rfl) | ((with_reducible apply wl_buildSlice); assumption; rfl; (go_simp; rfl); (simp [Value.cells]); omega; intro b w1 hs1) | ((with_reducible apply wl_append); go_must (assumption; rfl; rfl; (repeat (first | exact Out.here _ | apply Out.there)); (repeat (first | assumption | exact Rd.own | exact Rd.nil | apply Rd.cons)); (first | exact B8_one _ | exact I8_one _ | (simp [Value.oneCell'])); (first | omega | (simp only [maxLen]; omega)); omega; intro A1 c1 w1 hs1 hc1; (try ((refine hs1.own_elim ?_ ?_); omega; rintro g1 rfl)); try simp only [Nat.zero_add, List.nil_append] at hs1 hc1)) | ((with_reducible apply wl_store_own); assumption; rfl; (go_simp; rfl); (repeat (first | exact Out.here _ | apply Out.there)); rfl; rfl; omega; intro w1 hs1) | ((with_reducible apply wl_store1); assumption; rfl; (go_simp; rfl); (repeat (first | exact Out.here _ | apply Out.there)); rfl; rfl; simp; intro w1 hs1; (try simp only [List.setIfInBounds_toArray] at hs1); (try simp only [List.set_cons_succ] at hs1); (try simp only [List.set_cons_zero] at hs1)) | ((with_reducible apply wl_load); assumption; rfl; (repeat (first | assumption | exact Cl.blk rfl | apply Cl.cons))) | ((with_reducible apply wl_b2s); assumption; rfl; (repeat (first | assumption | exact Rd.own | exact Rd.nil | apply Rd.cons)); first | rfl | (simp [B8_app]))) | fail)
    go_ret
    exact ⟨at_, hat, rfl, rfl, hs1⟩
  obtain ⟨m, hm⟩ : ∃ m, m = B.length := ⟨_, rfl⟩
  have hlt : at_ < m := by omega
  obtain ⟨c0, hc0⟩ : ∃ c0, B[at_]? = some c0 := ⟨B[at_]'(by omega), List.getElem?_eq_getElem (by omega)⟩
  obtain ⟨r, hr⟩ : ∃ r, B.drop (at_ + 1) = r := ⟨_, rfl⟩
  have hrl : r.length = m - (at_ + 1) := by rw [← hr, List.length_drop, hm]
  have hd : B.drop at_ = c0 :: r := by rw [drop_at B at_ c0 hc0, hr]
  obtain ⟨g, off, rfl⟩ := (hR w0 L).some_of hs.tail (by omega)
  rw [← hm] at hs hB hat
  have hR' : ∀ (w0 : World) (L : List HP), Rd w0 (buf :: L) (some ⟨g, off, none⟩) m 1 (B8 B) := by rw [hm]; exact hR
  have hcl : ∀ (k : Nat) (u : UInt8), B[k]? = some u → Cl w0 (blk q (.cells #[.slice (some ⟨g, off, none⟩) m c, .int .i64 at_, .int .i64 0] 132 (0, 0)) :: buf :: L) ⟨g, off + k, none⟩ (b8 u) := fun k u hu => ((hR' w0 L).elt (k := k) (u := b8 u) (by rw [B8, List.getElem?_map, hu]; rfl)).cons
  have k0 : ∀ w', Sat w0 w' (blk q (.cells #[.slice (some ⟨g, off, none⟩) m c, .int .i64 at_, .int .i64 0] 132 (0, 0)) :: buf :: L) → w'.cell? ⟨q, 0, none⟩ = some (.slice (some ⟨g, off, none⟩) m c) := Cl.blk rfl
  have k1 : ∀ w', Sat w0 w' (blk q (.cells #[.slice (some ⟨g, off, none⟩) m c, .int .i64 at_, .int .i64 0] 132 (0, 0)) :: buf :: L) → w'.cell? ⟨q, 1, none⟩ = some (.int .i64 at_) := Cl.blk rfl
  have k3 : ∀ w', Sat w0 w' (blk q (.cells #[.slice (some ⟨g, off, none⟩) m c, .int .i64 at_, .int .i64 0] 132 (0, 0)) :: buf :: L) → w'.cell? ⟨g, off + at_, none⟩ = some (.int .u8 c0.toNat) := hcl at_ c0 hc0
  have i0 : (0 : Int) ≤ (at_ : Int) := by omega
  have i1 : (at_ : Int) < (m : Int) := by omega
  have Hm : Hid (m = B.length) := hm
  have hb0 := c0.toNat_lt
  rw [hd]
  by_cases h6 : 6 < c0.toNat
  · have e1 : rdNumber 0 (c0 :: r) = (0, 21, B.drop at_) := by simp [rdNumber, h6, hd]
    rw [e1]; clear e1 hcl hm hr hrl hd hc0 hz
    go_enter Try.func78, Try.ntmps78
    go_wp2_with (first | (go_at_call 94; refine (refLeft_spec hB hat (by assumption) (Cl.blk rfl) (Cl.blk rfl)).mono ?_; rintro e' w' ⟨rfl, hs2⟩) | (first | ((with_reducible apply wl_unguard); rfl) | ((with_reducible apply wl_buildSlice); assumption; rfl; (go_simp; rfl); (simp [Value.cells]); omega; intro b w1 hs1) | ((with_reducible apply wl_append); go_must (assumption; rfl; rfl; (repeat (first | exact Out.here _ | apply Out.there)); (repeat (first | assumption | exact Rd.own | exact Rd.nil | apply Rd.cons)); (first | exact B8_one _ | exact I8_one _ | (simp [Value.oneCell'])); (first | omega | (simp only [maxLen]; omega)); omega; intro A1 c1 w1 hs1 hc1; (try ((refine hs1.own_elim ?_ ?_); omega; rintro g1 rfl)); try simp only [Nat.zero_add, List.nil_append] at hs1 hc1)) | ((with_reducible apply wl_store_own); assumption; rfl; (go_simp; rfl); (repeat (first | exact Out.here _ | apply Out.there)); rfl; rfl; omega; intro w1 hs1) | ((with_reducible apply wl_store1); assumption; rfl; (go_simp; rfl); (repeat (first | exact Out.here _ | apply Out.there)); rfl; rfl; simp; intro w1 hs1; (try simp only [List.setIfInBounds_toArray] at hs1); (try simp only [List.set_cons_succ] at hs1); (try simp only [List.set_cons_zero] at hs1)) | ((with_reducible apply wl_load); assumption; rfl; (repeat (first | assumption | exact Cl.blk rfl | apply Cl.cons))) | ((with_reducible apply wl_b2s); assumption; rfl; (repeat (first | assumption | exact Rd.own | exact Rd.nil | apply Rd.cons)); first | rfl | (simp [B8_app]))) | fail)
    go_region_held3 (fun w' => Sat w0 w' (blk q (.cells #[.slice (some ⟨g, off, none⟩) m c, .int .i64 at_, .int .i64 0] 132 (0, 0)) :: buf :: L)) (first | assumption | (apply Sat.drew; assumption)) (fail)
    go_wp2_with (first | (go_at_call 94; refine (refLeft_spec hB hat (by assumption) (Cl.blk rfl) (Cl.blk rfl)).mono ?_; rintro e' w' ⟨rfl, hs2⟩) | (first | ((with_reducible apply wl_unguard); rfl) | ((with_reducible apply wl_buildSlice); assumption; rfl; (go_simp; rfl); (simp [Value.cells]); omega; intro b w1 hs1) | ((with_reducible apply wl_append); go_must (assumption; rfl; rfl; (repeat (first | exact Out.here _ | apply Out.there)); (repeat (first | assumption | exact Rd.own | exact Rd.nil | apply Rd.cons)); (first | exact B8_one _ | exact I8_one _ | (simp [Value.oneCell'])); (first | omega | (simp only [maxLen]; omega)); omega; intro A1 c1 w1 hs1 hc1; (try ((refine hs1.own_elim ?_ ?_); omega; rintro g1 rfl)); try simp only [Nat.zero_add, List.nil_append] at hs1 hc1)) | ((with_reducible apply wl_store_own); assumption; rfl; (go_simp; rfl); (repeat (first | exact Out.here _ | apply Out.there)); rfl; rfl; omega; intro w1 hs1) | ((with_reducible apply wl_store1); assumption; rfl; (go_simp; rfl); (repeat (first | exact Out.here _ | apply Out.there)); rfl; rfl; simp; intro w1 hs1; (try simp only [List.setIfInBounds_toArray] at hs1); (try simp only [List.set_cons_succ] at hs1); (try simp only [List.set_cons_zero] at hs1)) | ((with_reducible apply wl_load); assumption; rfl; (repeat (first | assumption | exact Cl.blk rfl | apply Cl.cons))) | ((with_reducible apply wl_b2s); assumption; rfl; (repeat (first | assumption | exact Rd.own | exact Rd.nil | apply Rd.cons)); first | rfl | (simp [B8_app]))) | fail)
    go_ret
    refine ⟨at_, Hm.out ▸ hat, rfl, rfl, ?_⟩
    rw [← Hm.out]
    exact hs1
  by_cases h7 : r.length < c0.toNat
  · have e1 : rdNumber 0 (c0 :: r) = (0, 20, B.drop at_) := by simp [rdNumber, h6, h7, hd]
    have h7' : m - at_ < 1 + c0.toNat := by omega
    rw [e1]; clear e1 hcl hm hr hrl hd hc0 hz h7
    go_enter Try.func78, Try.ntmps78
    go_wp2_with (first | (go_at_call 94; refine (refLeft_spec hB hat (by assumption) (Cl.blk rfl) (Cl.blk rfl)).mono ?_; rintro e' w' ⟨rfl, hs2⟩) | (first | ((with_reducible apply wl_unguard); rfl) | ((with_reducible apply wl_buildSlice); assumption; rfl; (go_simp; rfl); (simp [Value.cells]); omega; intro b w1 hs1) | ((with_reducible apply wl_append); go_must (assumption; rfl; rfl; (repeat (first | exact Out.here _ | apply Out.there)); (repeat (first | assumption | exact Rd.own | exact Rd.nil | apply Rd.cons)); (first | exact B8_one _ | exact I8_one _ | (simp [Value.oneCell'])); (first | omega | (simp only [maxLen]; omega)); omega; intro A1 c1 w1 hs1 hc1; (try ((refine hs1.own_elim ?_ ?_); omega; rintro g1 rfl)); try simp only [Nat.zero_add, List.nil_append] at hs1 hc1)) | ((with_reducible apply wl_store_own); assumption; rfl; (go_simp; rfl); (repeat (first | exact Out.here _ | apply Out.there)); rfl; rfl; omega; intro w1 hs1) | ((with_reducible apply wl_store1); assumption; rfl; (go_simp; rfl); (repeat (first | exact Out.here _ | apply Out.there)); rfl; rfl; simp; intro w1 hs1; (try simp only [List.setIfInBounds_toArray] at hs1); (try simp only [List.set_cons_succ] at hs1); (try simp only [List.set_cons_zero] at hs1)) | ((with_reducible apply wl_load); assumption; rfl; (repeat (first | assumption | exact Cl.blk rfl | apply Cl.cons))) | ((with_reducible apply wl_b2s); assumption; rfl; (repeat (first | assumption | exact Rd.own | exact Rd.nil | apply Rd.cons)); first | rfl | (simp [B8_app]))) | fail)
    go_region_held3 (fun w' => Sat w0 w' (blk q (.cells #[.slice (some ⟨g, off, none⟩) m c, .int .i64 at_, .int .i64 0] 132 (0, 0)) :: buf :: L)) (first | assumption | (apply Sat.drew; assumption)) (fail)
    go_wp2_with (first | (go_at_call 94; refine (refLeft_spec hB hat (by assumption) (Cl.blk rfl) (Cl.blk rfl)).mono ?_; rintro e' w' ⟨rfl, hs2⟩) | (first | ((with_reducible apply wl_unguard); rfl) | ((with_reducible apply wl_buildSlice); assumption; rfl; (go_simp; rfl); (simp [Value.cells]); omega; intro b w1 hs1) | ((with_reducible apply wl_append); go_must (assumption; rfl; rfl; (repeat (first | exact Out.here _ | apply Out.there)); (repeat (first | assumption | exact Rd.own | exact Rd.nil | apply Rd.cons)); (first | exact B8_one _ | exact I8_one _ | (simp [Value.oneCell'])); (first | omega | (simp only [maxLen]; omega)); omega; intro A1 c1 w1 hs1 hc1; (try ((refine hs1.own_elim ?_ ?_); omega; rintro g1 rfl)); try simp only [Nat.zero_add, List.nil_append] at hs1 hc1)) | ((with_reducible apply wl_store_own); assumption; rfl; (go_simp; rfl); (repeat (first | exact Out.here _ | apply Out.there)); rfl; rfl; omega; intro w1 hs1) | ((with_reducible apply wl_store1); assumption; rfl; (go_simp; rfl); (repeat (first | exact Out.here _ | apply Out.there)); rfl; rfl; simp; intro w1 hs1; (try simp only [List.setIfInBounds_toArray] at hs1); (try simp only [List.set_cons_succ] at hs1); (try simp only [List.set_cons_zero] at hs1)) | ((with_reducible apply wl_load); assumption; rfl; (repeat (first | assumption | exact Cl.blk rfl | apply Cl.cons))) | ((with_reducible apply wl_b2s); assumption; rfl; (repeat (first | assumption | exact Rd.own | exact Rd.nil | apply Rd.cons)); first | rfl | (simp [B8_app]))) | fail)
    go_ret
    refine ⟨at_, Hm.out ▸ hat, rfl, rfl, ?_⟩
    rw [← Hm.out]
    exact hs1
  obtain ⟨n, hn⟩ : ∃ n, n = c0.toNat := ⟨_, rfl⟩
  rw [← hn] at h6 h7 k3
  have hn6 : n ≤ 6 := by omega
  have hnr : at_ + n < m := by omega
  have hat1 : ∀ k, r[k]? = B[at_ + (k + 1)]? := fun k => by rw [← hr, List.getElem?_drop]; congr 1; omega
  have j4 : IntKind.i64.wrap (n : Int) = (n : Int) := IntWalk.i64_in _ (by omega)
  have j0 : (0 : Int) ≤ (at_ : Int) + (n : Int) := by omega
  have j1 : (at_ : Int) + (n : Int) < (m : Int) := by omega
  have j2 : ((at_ : Int) + (n : Int)).toNat = at_ + n := by omega
  have j3 : IntKind.i64.wrap ((at_ : Int) + (n : Int)) = (at_ : Int) + (n : Int) := IntWalk.i64_in _ (by omega)
  by_cases h8 : 0 < n ∧ r[n - 1]? = some 0
  · have e1 : rdNumber 0 (c0 :: r) = (0, 21, B.drop at_) := by simp [rdNumber, ← hn, h6, h7, h8, hd]
    have k4 := hcl (at_ + n) 0 (by have := hat1 (n - 1); rw [h8.2] at this; rw [this]; congr 1; omega)
    rw [show b8 0 = .int .u8 0 from rfl] at k4
    unfold Cl at k4
    have d0 : decide ((0 : Int) < (n : Int)) = true := by simp; omega
    rw [e1]; clear e1 hcl hm hr hrl hd hc0 hz hn hat1 h7
    go_enter Try.func78, Try.ntmps78
    go_wp2_with (first | (go_at_call 94; refine (refLeft_spec hB hat (by assumption) (Cl.blk rfl) (Cl.blk rfl)).mono ?_; rintro e' w' ⟨rfl, hs2⟩) | (first | ((with_reducible apply wl_unguard); rfl) | ((with_reducible apply wl_buildSlice); assumption; rfl; (go_simp; rfl); (simp [Value.cells]); omega; intro b w1 hs1) | ((with_reducible apply wl_append); go_must (assumption; rfl; rfl; (repeat (first | exact Out.here _ | apply Out.there)); (repeat (first | assumption | exact Rd.own | exact Rd.nil | apply Rd.cons)); (first | exact B8_one _ | exact I8_one _ | (simp [Value.oneCell'])); (first | omega | (simp only [maxLen]; omega)); omega; intro A1 c1 w1 hs1 hc1; (try ((refine hs1.own_elim ?_ ?_); omega; rintro g1 rfl)); try simp only [Nat.zero_add, List.nil_append] at hs1 hc1)) | ((with_reducible apply wl_store_own); assumption; rfl; (go_simp; rfl); (repeat (first | exact Out.here _ | apply Out.there)); rfl; rfl; omega; intro w1 hs1) | ((with_reducible apply wl_store1); assumption; rfl; (go_simp; rfl); (repeat (first | exact Out.here _ | apply Out.there)); rfl; rfl; simp; intro w1 hs1; (try simp only [List.setIfInBounds_toArray] at hs1); (try simp only [List.set_cons_succ] at hs1); (try simp only [List.set_cons_zero] at hs1)) | ((with_reducible apply wl_load); assumption; rfl; (repeat (first | assumption | exact Cl.blk rfl | apply Cl.cons))) | ((with_reducible apply wl_b2s); assumption; rfl; (repeat (first | assumption | exact Rd.own | exact Rd.nil | apply Rd.cons)); first | rfl | (simp [B8_app]))) | fail)
    go_region_held3 (fun w' => Sat w0 w' (blk q (.cells #[.slice (some ⟨g, off, none⟩) m c, .int .i64 at_, .int .i64 0] 132 (0, 0)) :: buf :: L)) (first | assumption | (apply Sat.drew; assumption)) (fail)
    go_wp2_with (first | (go_at_call 94; refine (refLeft_spec hB hat (by assumption) (Cl.blk rfl) (Cl.blk rfl)).mono ?_; rintro e' w' ⟨rfl, hs2⟩) | (first | ((with_reducible apply wl_unguard); rfl) | ((with_reducible apply wl_buildSlice); assumption; rfl; (go_simp; rfl); (simp [Value.cells]); omega; intro b w1 hs1) | ((with_reducible apply wl_append); go_must (assumption; rfl; rfl; (repeat (first | exact Out.here _ | apply Out.there)); (repeat (first | assumption | exact Rd.own | exact Rd.nil | apply Rd.cons)); (first | exact B8_one _ | exact I8_one _ | (simp [Value.oneCell'])); (first | omega | (simp only [maxLen]; omega)); omega; intro A1 c1 w1 hs1 hc1; (try ((refine hs1.own_elim ?_ ?_); omega; rintro g1 rfl)); try simp only [Nat.zero_add, List.nil_append] at hs1 hc1)) | ((with_reducible apply wl_store_own); assumption; rfl; (go_simp; rfl); (repeat (first | exact Out.here _ | apply Out.there)); rfl; rfl; omega; intro w1 hs1) | ((with_reducible apply wl_store1); assumption; rfl; (go_simp; rfl); (repeat (first | exact Out.here _ | apply Out.there)); rfl; rfl; simp; intro w1 hs1; (try simp only [List.setIfInBounds_toArray] at hs1); (try simp only [List.set_cons_succ] at hs1); (try simp only [List.set_cons_zero] at hs1)) | ((with_reducible apply wl_load); assumption; rfl; (repeat (first | assumption | exact Cl.blk rfl | apply Cl.cons))) | ((with_reducible apply wl_b2s); assumption; rfl; (repeat (first | assumption | exact Rd.own | exact Rd.nil | apply Rd.cons)); first | rfl | (simp [B8_app]))) | fail)
    go_region_held3 (fun w' => Sat w0 w' (blk q (.cells #[.slice (some ⟨g, off, none⟩) m c, .int .i64 at_, .int .i64 0] 132 (0, 0)) :: buf :: L)) (first | assumption | (apply Sat.drew; assumption)) (fail)
    go_wp2_with (first | (go_at_call 94; refine (refLeft_spec hB hat (by assumption) (Cl.blk rfl) (Cl.blk rfl)).mono ?_; rintro e' w' ⟨rfl, hs2⟩) | (first | ((with_reducible apply wl_unguard); rfl) | ((with_reducible apply wl_buildSlice); assumption; rfl; (go_simp; rfl); (simp [Value.cells]); omega; intro b w1 hs1) | ((with_reducible apply wl_append); go_must (assumption; rfl; rfl; (repeat (first | exact Out.here _ | apply Out.there)); (repeat (first | assumption | exact Rd.own | exact Rd.nil | apply Rd.cons)); (first | exact B8_one _ | exact I8_one _ | (simp [Value.oneCell'])); (first | omega | (simp only [maxLen]; omega)); omega; intro A1 c1 w1 hs1 hc1; (try ((refine hs1.own_elim ?_ ?_); omega; rintro g1 rfl)); try simp only [Nat.zero_add, List.nil_append] at hs1 hc1)) | ((with_reducible apply wl_store_own); assumption; rfl; (go_simp; rfl); (repeat (first | exact Out.here _ | apply Out.there)); rfl; rfl; omega; intro w1 hs1) | ((with_reducible apply wl_store1); assumption; rfl; (go_simp; rfl); (repeat (first | exact Out.here _ | apply Out.there)); rfl; rfl; simp; intro w1 hs1; (try simp only [List.setIfInBounds_toArray] at hs1); (try simp only [List.set_cons_succ] at hs1); (try simp only [List.set_cons_zero] at hs1)) | ((with_reducible apply wl_load); assumption; rfl; (repeat (first | assumption | exact Cl.blk rfl | apply Cl.cons))) | ((with_reducible apply wl_b2s); assumption; rfl; (repeat (first | assumption | exact Rd.own | exact Rd.nil | apply Rd.cons)); first | rfl | (simp [B8_app]))) | fail)
    go_ret
    refine ⟨at_, Hm.out ▸ hat, rfl, rfl, ?_⟩
    rw [← Hm.out]
    exact hs1
  have e1 : rdNumber 0 (c0 :: r) = ((val (r.take n) : Int), 0, r.drop n) := by simp [rdNumber, ← hn, h6, h7, h8]
  rw [e1]
  refine dite (0 < n) (fun h9 => ?_) (fun h9 => ?_)
  all_goals first
    | (obtain ⟨u, hu⟩ : ∃ u, r[n - 1]? = some u := ⟨r[n - 1]'(by omega), List.getElem?_eq_getElem (by omega)⟩
       have hu0 : u ≠ 0 := fun h => h8 ⟨h9, by rw [hu, h]⟩
       have k4 := hcl (at_ + n) u (by have := hat1 (n - 1); rw [hu] at this; rw [this]; congr 1; omega)
       have hu1 : ((u.toNat : Int) == 0) = false := by
         have : u.toNat ≠ 0 := fun h => hu0 (UInt8.toNat_inj.1 (by simpa using h))
         simpa using this
       unfold b8 Cl at k4
       have d0 : decide ((0 : Int) < (n : Int)) = true := by simp; omega
       clear e1 hn h8 hu hu0)
    | (have d0 : decide ((0 : Int) < (n : Int)) = false := by simp; omega
       have h9' := h9
       clear e1 hn h8)
  all_goals
    have Hr : Hid (B.drop (at_ + 1) = r) := hr
    have Hat1 : Hid (∀ k, r[k]? = B[at_ + (k + 1)]?) := hat1
    have Hcl : Hid (∀ (k : Nat) (u : UInt8), B[k]? = some u → Cl w0 (blk q (.cells #[.slice (some ⟨g, off, none⟩) m c, .int .i64 at_, .int .i64 0] 132 (0, 0)) :: buf :: L) ⟨g, off + k, none⟩ (b8 u)) := hcl
    have Hrl : Hid (r.length = m - (at_ + 1)) := hrl
    clear hr hat1 hcl hrl hd hc0 hz h7 hm
    go_enter Try.func78, Try.ntmps78
    go_wp2_with (first | (go_at_call 94; refine (refLeft_spec hB hat (by assumption) (Cl.blk rfl) (Cl.blk rfl)).mono ?_; rintro e' w' ⟨rfl, hs2⟩) | (first | ((with_reducible apply wl_unguard); rfl) | ((with_reducible apply wl_buildSlice); assumption; rfl; (go_simp; rfl); (simp [Value.cells]); omega; intro b w1 hs1) | ((with_reducible apply wl_append); go_must (assumption; rfl; rfl; (repeat (first | exact Out.here _ | apply Out.there)); (repeat (first | assumption | exact Rd.own | exact Rd.nil | apply Rd.cons)); (first | exact B8_one _ | exact I8_one _ | (simp [Value.oneCell'])); (first | omega | (simp only [maxLen]; omega)); omega; intro A1 c1 w1 hs1 hc1; (try ((refine hs1.own_elim ?_ ?_); omega; rintro g1 rfl)); try simp only [Nat.zero_add, List.nil_append] at hs1 hc1)) | ((with_reducible apply wl_store_own); assumption; rfl; (go_simp; rfl); (repeat (first | exact Out.here _ | apply Out.there)); rfl; rfl; omega; intro w1 hs1) | ((with_reducible apply wl_store1); assumption; rfl; (go_simp; rfl); (repeat (first | exact Out.here _ | apply Out.there)); rfl; rfl; simp; intro w1 hs1; (try simp only [List.setIfInBounds_toArray] at hs1); (try simp only [List.set_cons_succ] at hs1); (try simp only [List.set_cons_zero] at hs1)) | ((with_reducible apply wl_load); assumption; rfl; (repeat (first | assumption | exact Cl.blk rfl | apply Cl.cons))) | ((with_reducible apply wl_b2s); assumption; rfl; (repeat (first | assumption | exact Rd.own | exact Rd.nil | apply Rd.cons)); first | rfl | (simp [B8_app]))) | fail)
    go_region_held3 (fun w' => Sat w0 w' (blk q (.cells #[.slice (some ⟨g, off, none⟩) m c, .int .i64 at_, .int .i64 0] 132 (0, 0)) :: buf :: L)) (first | assumption | (apply Sat.drew; assumption)) (fail)
    go_wp2_with (first | (go_at_call 94; refine (refLeft_spec hB hat (by assumption) (Cl.blk rfl) (Cl.blk rfl)).mono ?_; rintro e' w' ⟨rfl, hs2⟩) | (first | ((with_reducible apply wl_unguard); rfl) | ((with_reducible apply wl_buildSlice); assumption; rfl; (go_simp; rfl); (simp [Value.cells]); omega; intro b w1 hs1) | ((with_reducible apply wl_append); go_must (assumption; rfl; rfl; (repeat (first | exact Out.here _ | apply Out.there)); (repeat (first | assumption | exact Rd.own | exact Rd.nil | apply Rd.cons)); (first | exact B8_one _ | exact I8_one _ | (simp [Value.oneCell'])); (first | omega | (simp only [maxLen]; omega)); omega; intro A1 c1 w1 hs1 hc1; (try ((refine hs1.own_elim ?_ ?_); omega; rintro g1 rfl)); try simp only [Nat.zero_add, List.nil_append] at hs1 hc1)) | ((with_reducible apply wl_store_own); assumption; rfl; (go_simp; rfl); (repeat (first | exact Out.here _ | apply Out.there)); rfl; rfl; omega; intro w1 hs1) | ((with_reducible apply wl_store1); assumption; rfl; (go_simp; rfl); (repeat (first | exact Out.here _ | apply Out.there)); rfl; rfl; simp; intro w1 hs1; (try simp only [List.setIfInBounds_toArray] at hs1); (try simp only [List.set_cons_succ] at hs1); (try simp only [List.set_cons_zero] at hs1)) | ((with_reducible apply wl_load); assumption; rfl; (repeat (first | assumption | exact Cl.blk rfl | apply Cl.cons))) | ((with_reducible apply wl_b2s); assumption; rfl; (repeat (first | assumption | exact Rd.own | exact Rd.nil | apply Rd.cons)); first | rfl | (simp [B8_app]))) | fail)
    first | ((have := h9'); go_region) | go_region_held3 (fun w' => Sat w0 w' (blk q (.cells #[.slice (some ⟨g, off, none⟩) m c, .int .i64 at_, .int .i64 0] 132 (0, 0)) :: buf :: L)) (first | assumption | (apply Sat.drew; assumption)) (fail)
    go_wp2_with (first | (go_at_call 94; refine (refLeft_spec hB hat (by assumption) (Cl.blk rfl) (Cl.blk rfl)).mono ?_; rintro e' w' ⟨rfl, hs2⟩) | (first | ((with_reducible apply wl_unguard); rfl) | ((with_reducible apply wl_buildSlice); assumption; rfl; (go_simp; rfl); (simp [Value.cells]); omega; intro b w1 hs1) | ((with_reducible apply wl_append); go_must (assumption; rfl; rfl; (repeat (first | exact Out.here _ | apply Out.there)); (repeat (first | assumption | exact Rd.own | exact Rd.nil | apply Rd.cons)); (first | exact B8_one _ | exact I8_one _ | (simp [Value.oneCell'])); (first | omega | (simp only [maxLen]; omega)); omega; intro A1 c1 w1 hs1 hc1; (try ((refine hs1.own_elim ?_ ?_); omega; rintro g1 rfl)); try simp only [Nat.zero_add, List.nil_append] at hs1 hc1)) | ((with_reducible apply wl_store_own); assumption; rfl; (go_simp; rfl); (repeat (first | exact Out.here _ | apply Out.there)); rfl; rfl; omega; intro w1 hs1) | ((with_reducible apply wl_store1); assumption; rfl; (go_simp; rfl); (repeat (first | exact Out.here _ | apply Out.there)); rfl; rfl; simp; intro w1 hs1; (try simp only [List.setIfInBounds_toArray] at hs1); (try simp only [List.set_cons_succ] at hs1); (try simp only [List.set_cons_zero] at hs1)) | ((with_reducible apply wl_load); assumption; rfl; (repeat (first | assumption | exact Cl.blk rfl | apply Cl.cons))) | ((with_reducible apply wl_b2s); assumption; rfl; (repeat (first | assumption | exact Rd.own | exact Rd.nil | apply Rd.cons)); first | rfl | (simp [B8_app]))) | fail)
    go_loopw [4, 5] (fun x i wr => ∃ k : Nat, k ≤ n ∧ i = .int .i64 k ∧ x = .int .i64 (val ((r.take n).drop k)) ∧ Sat w0 wr (blk q (.cells #[.slice (some ⟨g, off, none⟩) m c, .int .i64 at_, .int .i64 0] 132 (0, 0)) :: buf :: L)) (fun _ i _ => (intOf i).toNat)
    case atStart => exact ⟨n, Nat.le_refl _, rfl, by rw [List.drop_of_length_le (by simp; omega)]; rfl, by first | assumption | (apply Sat.drew; assumption)⟩
    case round =>
      obtain ⟨k, hk, rfl, rfl, hs3⟩ := hrel
      clear hs hs2
      by_cases hk1 : 1 ≤ k
      · first
        | (exfalso; omega)
        | (obtain ⟨j, rfl⟩ : ∃ j, k = j + 1 := ⟨k - 1, by omega⟩
           have hrl := Hrl.out
           obtain ⟨u, hu⟩ : ∃ u, r[j]? = some u := ⟨r[j]'(by omega), List.getElem?_eq_getElem (by omega)⟩
           have k5 := Hcl.out (at_ + (j + 1)) u (by rw [← Hat1.out, hu])
           have hu2 : (r.take n)[j]? = some u := by rw [List.getElem?_take, if_pos (by omega), hu]
           have hd := drop_at (r.take n) j u hu2
           have hvs : val ((r.take n).drop j) = u.toNat + 256 * val ((r.take n).drop (j + 1)) := by rw [hd]; rfl
           have hvl := val_lt ((r.take n).drop (j + 1))
           have hvb : val ((r.take n).drop (j + 1)) < 256 ^ 5 := Nat.lt_of_lt_of_le hvl (Nat.pow_le_pow_right (by omega) (by simp; omega))
           have hub := u.toNat_lt
           have Hvs : Hid (val ((r.take n).drop j) = u.toNat + 256 * val ((r.take n).drop (j + 1))) := hvs
           clear hvs hvl hd hu2 hu hrl
           generalize val ((r.take n).drop (j + 1)) = v at hvb Hvs
           obtain ⟨k, hkk⟩ : ∃ k, k = j + 1 := ⟨_, rfl⟩
           have Hk : Hid (k = j + 1) := hkk
           rw [← hkk] at k5 hk hk1 ⊢
           clear hkk
           unfold b8 Cl at k5
           have l0 : (0 : Int) ≤ (at_ : Int) + (k : Int) := by omega
           have l1 : (at_ : Int) + (k : Int) < (m : Int) := by omega
           have l3 : IntKind.i64.wrap ((at_ : Int) + (k : Int)) = (at_ : Int) + (k : Int) := IntWalk.i64_in _ (by omega)
           have l2 : ((at_ : Int) + (k : Int)).toNat = at_ + k := by omega
           have l4 : IntKind.i64.wrap (u.toNat : Int) = (u.toNat : Int) := IntWalk.i64_in _ (by omega)
           have l5 : IntKind.i64.wrap ((v : Int) * 256) = (v : Int) * 256 := IntWalk.i64_in _ (by omega)
           go_wp2_with fail
           go_region_held3 (fun w' => Sat w0 w' (blk q (.cells #[.slice (some ⟨g, off, none⟩) m c, .int .i64 at_, .int .i64 0] 132 (0, 0)) :: buf :: L)) (first | assumption | (apply Sat.drew; assumption)) (fail)
           rw [bits_or_i64 v u.toNat hvb hub]
           go_wp2_with fail
           go_roundw
           case rel => exact ⟨j, by have := Hk.out; omega, by have := Hk.out; go_num, by rw [Hvs.out], by assumption⟩
           case measure => (have hkj := Hk.out; simp [intOf]; omega))
      · obtain rfl : k = 0 := by omega
        go_wp2_with (first | ((with_reducible apply wl_unguard); rfl) | ((with_reducible apply wl_buildSlice); assumption; rfl; (go_simp; rfl); (simp [Value.cells]); omega; intro b w1 hs1) | ((with_reducible apply wl_append); go_must (assumption; rfl; rfl; (repeat (first | exact Out.here _ | apply Out.there)); (repeat (first | assumption | exact Rd.own | exact Rd.nil | apply Rd.cons)); (first | exact B8_one _ | exact I8_one _ | (simp [Value.oneCell'])); (first | omega | (simp only [maxLen]; omega)); omega; intro A1 c1 w1 hs1 hc1; (try ((refine hs1.own_elim ?_ ?_); omega; rintro g1 rfl)); try simp only [Nat.zero_add, List.nil_append] at hs1 hc1)) | ((with_reducible apply wl_store_own); assumption; rfl; (go_simp; rfl); (repeat (first | exact Out.here _ | apply Out.there)); rfl; rfl; omega; intro w1 hs1) | ((with_reducible apply wl_store1); assumption; rfl; (go_simp; rfl); (repeat (first | exact Out.here _ | apply Out.there)); rfl; rfl; simp; intro w1 hs1; (try simp only [List.setIfInBounds_toArray] at hs1); (try simp only [List.set_cons_succ] at hs1); (try simp only [List.set_cons_zero] at hs1)) | ((with_reducible apply wl_load); assumption; rfl; (repeat (first | assumption | exact Cl.blk rfl | apply Cl.cons))) | ((with_reducible apply wl_b2s); assumption; rfl; (repeat (first | assumption | exact Rd.own | exact Rd.nil | apply Rd.cons)); first | rfl | (simp [B8_app])))
        go_ret
        refine ⟨at_ + 1 + n, by rw [← Hm.out]; omega, by rw [← Hr.out, List.drop_drop], rfl, ?_⟩
        rw [← Hm.out]
        exact hs1
end Go.Proofs.Ytcpcdhlfdabbnaa
