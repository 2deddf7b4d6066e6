/-
  Entries: what may be. (right and RightEntry are alike.)
-/
import Derived.Test.YtcpcdhlfdabbnaaSrv4
import Derived.Test.YtcpcdhlfdabbnaaWire9
import Derived.Test.YtcpcdhlfdabbnaaWk
namespace Go.Proofs.Ytcpcdhlfdabbnaa
open Go Go.RowKit Sl Go.Shelf

/-- An entry. -/
structure Ent where
  t : Int
  i : Int
  k : Int
  d : List UInt8

/-- May it be? -/
def rightE (x : Ent) : Bool :=
  if x.t < 1 ∨ 1099511627776 ≤ x.t ∨ x.i < 1 ∨ 1099511627776 ≤ x.i then false
  else if x.k = 1 then ((x.d.length : Int) == 0) else if x.k = 2 then decide ((x.d.length : Int) ≤ 4096) else if x.k = 3 then ((getServers x.d).2 == 0) else false

set_option maxHeartbeats 1000000
set_option maxRecDepth 8000

/-- wire.right -/
theorem right_spec {w0 w : World} {L : List HP} {A : Option Addr} {c : Nat} (x : Ent) (hl : x.d.length ≤ 4294967296) (hs : Sat w0 w L) (hR : Rd w0 L A x.d.length 1 (B8 x.d)) :
    Calls Try.prog 83 #[.agg #[.int .i64 x.t, .int .i64 x.i, .int .i64 x.k, .slice A x.d.length c]] w (RetB w0 L (rightE x)) := by
  obtain ⟨t, i, k, d⟩ := x
  simp only at hl hR ⊢
  obtain ⟨r, hr⟩ : ∃ r, rightE ⟨t, i, k, d⟩ = r := ⟨_, rfl⟩
  rw [hr]
  have Hr := Hid.mk' hr
  clear hr
  by_cases h1 : t < 1
  · have Hr2 : Hid (r = false) := by unfold Hid; rw [← Hr.out]; simp only [rightE]; rw [if_pos (.inl h1)]
    have d0 : decide (t < 1) = true := by simp; omega
    go_enter Try.func83, Try.ntmps83
    go_wp2_with (first | (first | ((with_reducible apply wl_unguard); rfl) | ((with_reducible apply wl_buildSlice); assumption; rfl; (go_simp; rfl); (simp [Value.cells]); omega; intro b w1 hs1) | ((with_reducible apply wl_append); go_must (assumption; rfl; rfl; (repeat (first | exact Out.here _ | apply Out.there)); (repeat (first | assumption | exact Rd.own | exact Rd.nil | apply Rd.cons)); (first | exact B8_one _ | exact I8_one _ | (simp [Value.oneCell'])); (first | omega | (simp only [maxLen]; omega)); omega; intro A1 c1 w1 hs1 hc1; (try ((refine hs1.own_elim ?_ ?_); omega; rintro g1 rfl)); try simp only [Nat.zero_add, List.nil_append] at hs1 hc1)) | ((with_reducible apply wl_store_own); assumption; rfl; (go_simp; rfl); (repeat (first | exact Out.here _ | apply Out.there)); rfl; rfl; omega; intro w1 hs1) | ((with_reducible apply wl_store1); assumption; rfl; (go_simp; rfl); (repeat (first | exact Out.here _ | apply Out.there)); rfl; rfl; simp; intro w1 hs1; (try simp only [List.setIfInBounds_toArray] at hs1); (try simp only [List.set_cons_succ] at hs1); (try simp only [List.set_cons_zero] at hs1)) | ((with_reducible apply wl_load); assumption; rfl; (repeat (first | assumption | exact Cl.blk rfl | apply Cl.cons))) | ((with_reducible apply wl_loadAgg); assumption; rfl; (repeat (first | exact Out.here _ | apply Out.there)); (simp); rfl) | ((with_reducible apply wl_b2s); assumption; rfl; (repeat (first | assumption | exact Rd.own | exact Rd.nil | apply Rd.cons)); first | rfl | (simp [B8_app])) | ((with_reducible apply wl_box); assumption; (go_simp; rfl); intro b w1 hs1; simp only [Value.cells] at hs1) | ((with_reducible apply wl_alloc); assumption; intro b w1 hs1; simp only [Value.cells] at hs1) | ((with_reducible apply wl_store); assumption; rfl; (go_simp; rfl); (repeat (first | exact Out.here _ | apply Out.there)); rfl; (first | (focus (simp [Value.oneCell']; done)) | (simp [Value.cells, Value.oneCell'])); (first | (focus (simp; done)) | (simp [Value.cells])); intro w1 hs1; simp only [upd, Value.cells] at hs1)) | fail)
    go_ret
    exact ⟨by rw [Hr2.out]; rfl, hs1.pick (by (repeat (first | exact Pick.nil _ | exact Pick.tail _ | exact Out.here _ | apply Out.there | apply Pick.cons | apply Pick.drop)))⟩
  have d0 : decide (t < 1) = false := by simp; omega
  by_cases h2 : 1099511627776 ≤ t
  · have Hr2 : Hid (r = false) := by unfold Hid; rw [← Hr.out]; simp only [rightE]; rw [if_pos (.inr (.inl h2))]
    have d1 : decide (1099511627776 ≤ t) = true := by simp; omega
    go_enter Try.func83, Try.ntmps83
    go_wp2_with (first | (first | ((with_reducible apply wl_unguard); rfl) | ((with_reducible apply wl_buildSlice); assumption; rfl; (go_simp; rfl); (simp [Value.cells]); omega; intro b w1 hs1) | ((with_reducible apply wl_append); go_must (assumption; rfl; rfl; (repeat (first | exact Out.here _ | apply Out.there)); (repeat (first | assumption | exact Rd.own | exact Rd.nil | apply Rd.cons)); (first | exact B8_one _ | exact I8_one _ | (simp [Value.oneCell'])); (first | omega | (simp only [maxLen]; omega)); omega; intro A1 c1 w1 hs1 hc1; (try ((refine hs1.own_elim ?_ ?_); omega; rintro g1 rfl)); try simp only [Nat.zero_add, List.nil_append] at hs1 hc1)) | ((with_reducible apply wl_store_own); assumption; rfl; (go_simp; rfl); (repeat (first | exact Out.here _ | apply Out.there)); rfl; rfl; omega; intro w1 hs1) | ((with_reducible apply wl_store1); assumption; rfl; (go_simp; rfl); (repeat (first | exact Out.here _ | apply Out.there)); rfl; rfl; simp; intro w1 hs1; (try simp only [List.setIfInBounds_toArray] at hs1); (try simp only [List.set_cons_succ] at hs1); (try simp only [List.set_cons_zero] at hs1)) | ((with_reducible apply wl_load); assumption; rfl; (repeat (first | assumption | exact Cl.blk rfl | apply Cl.cons))) | ((with_reducible apply wl_loadAgg); assumption; rfl; (repeat (first | exact Out.here _ | apply Out.there)); (simp); rfl) | ((with_reducible apply wl_b2s); assumption; rfl; (repeat (first | assumption | exact Rd.own | exact Rd.nil | apply Rd.cons)); first | rfl | (simp [B8_app])) | ((with_reducible apply wl_box); assumption; (go_simp; rfl); intro b w1 hs1; simp only [Value.cells] at hs1) | ((with_reducible apply wl_alloc); assumption; intro b w1 hs1; simp only [Value.cells] at hs1) | ((with_reducible apply wl_store); assumption; rfl; (go_simp; rfl); (repeat (first | exact Out.here _ | apply Out.there)); rfl; (first | (focus (simp [Value.oneCell']; done)) | (simp [Value.cells, Value.oneCell'])); (first | (focus (simp; done)) | (simp [Value.cells])); intro w1 hs1; simp only [upd, Value.cells] at hs1)) | fail)
    go_ret
    exact ⟨by rw [Hr2.out]; rfl, hs1.pick (by (repeat (first | exact Pick.nil _ | exact Pick.tail _ | exact Out.here _ | apply Out.there | apply Pick.cons | apply Pick.drop)))⟩
  have d1 : decide (1099511627776 ≤ t) = false := by simp; omega
  by_cases h3 : i < 1
  · have Hr2 : Hid (r = false) := by unfold Hid; rw [← Hr.out]; simp only [rightE]; rw [if_pos (.inr (.inr (.inl h3)))]
    have d2 : decide (i < 1) = true := by simp; omega
    go_enter Try.func83, Try.ntmps83
    go_wp2_with (first | (first | ((with_reducible apply wl_unguard); rfl) | ((with_reducible apply wl_buildSlice); assumption; rfl; (go_simp; rfl); (simp [Value.cells]); omega; intro b w1 hs1) | ((with_reducible apply wl_append); go_must (assumption; rfl; rfl; (repeat (first | exact Out.here _ | apply Out.there)); (repeat (first | assumption | exact Rd.own | exact Rd.nil | apply Rd.cons)); (first | exact B8_one _ | exact I8_one _ | (simp [Value.oneCell'])); (first | omega | (simp only [maxLen]; omega)); omega; intro A1 c1 w1 hs1 hc1; (try ((refine hs1.own_elim ?_ ?_); omega; rintro g1 rfl)); try simp only [Nat.zero_add, List.nil_append] at hs1 hc1)) | ((with_reducible apply wl_store_own); assumption; rfl; (go_simp; rfl); (repeat (first | exact Out.here _ | apply Out.there)); rfl; rfl; omega; intro w1 hs1) | ((with_reducible apply wl_store1); assumption; rfl; (go_simp; rfl); (repeat (first | exact Out.here _ | apply Out.there)); rfl; rfl; simp; intro w1 hs1; (try simp only [List.setIfInBounds_toArray] at hs1); (try simp only [List.set_cons_succ] at hs1); (try simp only [List.set_cons_zero] at hs1)) | ((with_reducible apply wl_load); assumption; rfl; (repeat (first | assumption | exact Cl.blk rfl | apply Cl.cons))) | ((with_reducible apply wl_loadAgg); assumption; rfl; (repeat (first | exact Out.here _ | apply Out.there)); (simp); rfl) | ((with_reducible apply wl_b2s); assumption; rfl; (repeat (first | assumption | exact Rd.own | exact Rd.nil | apply Rd.cons)); first | rfl | (simp [B8_app])) | ((with_reducible apply wl_box); assumption; (go_simp; rfl); intro b w1 hs1; simp only [Value.cells] at hs1) | ((with_reducible apply wl_alloc); assumption; intro b w1 hs1; simp only [Value.cells] at hs1) | ((with_reducible apply wl_store); assumption; rfl; (go_simp; rfl); (repeat (first | exact Out.here _ | apply Out.there)); rfl; (first | (focus (simp [Value.oneCell']; done)) | (simp [Value.cells, Value.oneCell'])); (first | (focus (simp; done)) | (simp [Value.cells])); intro w1 hs1; simp only [upd, Value.cells] at hs1)) | fail)
    go_ret
    exact ⟨by rw [Hr2.out]; rfl, hs1.pick (by (repeat (first | exact Pick.nil _ | exact Pick.tail _ | exact Out.here _ | apply Out.there | apply Pick.cons | apply Pick.drop)))⟩
  have d2 : decide (i < 1) = false := by simp; omega
  by_cases h4 : 1099511627776 ≤ i
  · have Hr2 : Hid (r = false) := by unfold Hid; rw [← Hr.out]; simp only [rightE]; rw [if_pos (.inr (.inr (.inr h4)))]
    have d3 : decide (1099511627776 ≤ i) = true := by simp; omega
    go_enter Try.func83, Try.ntmps83
    go_wp2_with (first | (first | ((with_reducible apply wl_unguard); rfl) | ((with_reducible apply wl_buildSlice); assumption; rfl; (go_simp; rfl); (simp [Value.cells]); omega; intro b w1 hs1) | ((with_reducible apply wl_append); go_must (assumption; rfl; rfl; (repeat (first | exact Out.here _ | apply Out.there)); (repeat (first | assumption | exact Rd.own | exact Rd.nil | apply Rd.cons)); (first | exact B8_one _ | exact I8_one _ | (simp [Value.oneCell'])); (first | omega | (simp only [maxLen]; omega)); omega; intro A1 c1 w1 hs1 hc1; (try ((refine hs1.own_elim ?_ ?_); omega; rintro g1 rfl)); try simp only [Nat.zero_add, List.nil_append] at hs1 hc1)) | ((with_reducible apply wl_store_own); assumption; rfl; (go_simp; rfl); (repeat (first | exact Out.here _ | apply Out.there)); rfl; rfl; omega; intro w1 hs1) | ((with_reducible apply wl_store1); assumption; rfl; (go_simp; rfl); (repeat (first | exact Out.here _ | apply Out.there)); rfl; rfl; simp; intro w1 hs1; (try simp only [List.setIfInBounds_toArray] at hs1); (try simp only [List.set_cons_succ] at hs1); (try simp only [List.set_cons_zero] at hs1)) | ((with_reducible apply wl_load); assumption; rfl; (repeat (first | assumption | exact Cl.blk rfl | apply Cl.cons))) | ((with_reducible apply wl_loadAgg); assumption; rfl; (repeat (first | exact Out.here _ | apply Out.there)); (simp); rfl) | ((with_reducible apply wl_b2s); assumption; rfl; (repeat (first | assumption | exact Rd.own | exact Rd.nil | apply Rd.cons)); first | rfl | (simp [B8_app])) | ((with_reducible apply wl_box); assumption; (go_simp; rfl); intro b w1 hs1; simp only [Value.cells] at hs1) | ((with_reducible apply wl_alloc); assumption; intro b w1 hs1; simp only [Value.cells] at hs1) | ((with_reducible apply wl_store); assumption; rfl; (go_simp; rfl); (repeat (first | exact Out.here _ | apply Out.there)); rfl; (first | (focus (simp [Value.oneCell']; done)) | (simp [Value.cells, Value.oneCell'])); (first | (focus (simp; done)) | (simp [Value.cells])); intro w1 hs1; simp only [upd, Value.cells] at hs1)) | fail)
    go_ret
    exact ⟨by rw [Hr2.out]; rfl, hs1.pick (by (repeat (first | exact Pick.nil _ | exact Pick.tail _ | exact Out.here _ | apply Out.there | apply Pick.cons | apply Pick.drop)))⟩
  have d3 : decide (1099511627776 ≤ i) = false := by simp; omega
  have Hr1 : Hid (r = if k = 1 then ((d.length : Int) == 0) else if k = 2 then decide ((d.length : Int) ≤ 4096) else if k = 3 then ((getServers d).2 == 0) else false) := by
    unfold Hid; rw [← Hr.out]; simp only [rightE]; rw [if_neg (by omega)]
  by_cases k1 : k = 1
  · have Hr2 : Hid (r = ((d.length : Int) == 0)) := by unfold Hid; rw [Hr1.out, if_pos k1]
    have e1 : (k == 1) = true := by simp [k1]
    clear k1
    go_enter Try.func83, Try.ntmps83
    go_wp2_with (first | (first | ((with_reducible apply wl_unguard); rfl) | ((with_reducible apply wl_buildSlice); assumption; rfl; (go_simp; rfl); (simp [Value.cells]); omega; intro b w1 hs1) | ((with_reducible apply wl_append); go_must (assumption; rfl; rfl; (repeat (first | exact Out.here _ | apply Out.there)); (repeat (first | assumption | exact Rd.own | exact Rd.nil | apply Rd.cons)); (first | exact B8_one _ | exact I8_one _ | (simp [Value.oneCell'])); (first | omega | (simp only [maxLen]; omega)); omega; intro A1 c1 w1 hs1 hc1; (try ((refine hs1.own_elim ?_ ?_); omega; rintro g1 rfl)); try simp only [Nat.zero_add, List.nil_append] at hs1 hc1)) | ((with_reducible apply wl_store_own); assumption; rfl; (go_simp; rfl); (repeat (first | exact Out.here _ | apply Out.there)); rfl; rfl; omega; intro w1 hs1) | ((with_reducible apply wl_store1); assumption; rfl; (go_simp; rfl); (repeat (first | exact Out.here _ | apply Out.there)); rfl; rfl; simp; intro w1 hs1; (try simp only [List.setIfInBounds_toArray] at hs1); (try simp only [List.set_cons_succ] at hs1); (try simp only [List.set_cons_zero] at hs1)) | ((with_reducible apply wl_load); assumption; rfl; (repeat (first | assumption | exact Cl.blk rfl | apply Cl.cons))) | ((with_reducible apply wl_loadAgg); assumption; rfl; (repeat (first | exact Out.here _ | apply Out.there)); (simp); rfl) | ((with_reducible apply wl_b2s); assumption; rfl; (repeat (first | assumption | exact Rd.own | exact Rd.nil | apply Rd.cons)); first | rfl | (simp [B8_app])) | ((with_reducible apply wl_box); assumption; (go_simp; rfl); intro b w1 hs1; simp only [Value.cells] at hs1) | ((with_reducible apply wl_alloc); assumption; intro b w1 hs1; simp only [Value.cells] at hs1) | ((with_reducible apply wl_store); assumption; rfl; (go_simp; rfl); (repeat (first | exact Out.here _ | apply Out.there)); rfl; (first | (focus (simp [Value.oneCell']; done)) | (simp [Value.cells, Value.oneCell'])); (first | (focus (simp; done)) | (simp [Value.cells])); intro w1 hs1; simp only [upd, Value.cells] at hs1)) | fail)
    go_ret
    exact ⟨by rw [Hr2.out]; rfl, hs1.pick (by (repeat (first | exact Pick.nil _ | exact Pick.tail _ | exact Out.here _ | apply Out.there | apply Pick.cons | apply Pick.drop)))⟩
  have e1 : (k == 1) = false := by simp [k1]
  by_cases k2 : k = 2
  · have Hr2 : Hid (r = decide ((d.length : Int) ≤ 4096)) := by unfold Hid; rw [Hr1.out, if_neg k1, if_pos k2]
    have e2 : (k == 2) = true := by simp [k2]
    clear k2 k1
    go_enter Try.func83, Try.ntmps83
    go_wp2_with (first | (first | ((with_reducible apply wl_unguard); rfl) | ((with_reducible apply wl_buildSlice); assumption; rfl; (go_simp; rfl); (simp [Value.cells]); omega; intro b w1 hs1) | ((with_reducible apply wl_append); go_must (assumption; rfl; rfl; (repeat (first | exact Out.here _ | apply Out.there)); (repeat (first | assumption | exact Rd.own | exact Rd.nil | apply Rd.cons)); (first | exact B8_one _ | exact I8_one _ | (simp [Value.oneCell'])); (first | omega | (simp only [maxLen]; omega)); omega; intro A1 c1 w1 hs1 hc1; (try ((refine hs1.own_elim ?_ ?_); omega; rintro g1 rfl)); try simp only [Nat.zero_add, List.nil_append] at hs1 hc1)) | ((with_reducible apply wl_store_own); assumption; rfl; (go_simp; rfl); (repeat (first | exact Out.here _ | apply Out.there)); rfl; rfl; omega; intro w1 hs1) | ((with_reducible apply wl_store1); assumption; rfl; (go_simp; rfl); (repeat (first | exact Out.here _ | apply Out.there)); rfl; rfl; simp; intro w1 hs1; (try simp only [List.setIfInBounds_toArray] at hs1); (try simp only [List.set_cons_succ] at hs1); (try simp only [List.set_cons_zero] at hs1)) | ((with_reducible apply wl_load); assumption; rfl; (repeat (first | assumption | exact Cl.blk rfl | apply Cl.cons))) | ((with_reducible apply wl_loadAgg); assumption; rfl; (repeat (first | exact Out.here _ | apply Out.there)); (simp); rfl) | ((with_reducible apply wl_b2s); assumption; rfl; (repeat (first | assumption | exact Rd.own | exact Rd.nil | apply Rd.cons)); first | rfl | (simp [B8_app])) | ((with_reducible apply wl_box); assumption; (go_simp; rfl); intro b w1 hs1; simp only [Value.cells] at hs1) | ((with_reducible apply wl_alloc); assumption; intro b w1 hs1; simp only [Value.cells] at hs1) | ((with_reducible apply wl_store); assumption; rfl; (go_simp; rfl); (repeat (first | exact Out.here _ | apply Out.there)); rfl; (first | (focus (simp [Value.oneCell']; done)) | (simp [Value.cells, Value.oneCell'])); (first | (focus (simp; done)) | (simp [Value.cells])); intro w1 hs1; simp only [upd, Value.cells] at hs1)) | fail)
    go_ret
    exact ⟨by rw [Hr2.out]; rfl, hs1.pick (by (repeat (first | exact Pick.nil _ | exact Pick.tail _ | exact Out.here _ | apply Out.there | apply Pick.cons | apply Pick.drop)))⟩
  have e2 : (k == 2) = false := by simp [k2]
  by_cases k3 : k = 3
  · obtain ⟨⟨ys, g⟩, hg⟩ : ∃ x, getServers d = x := ⟨_, rfl⟩
    have hG : ∀ {w : World} {L : List HP} {A : Option Addr}, Sat w0 w L → Rd w0 L A d.length 1 (B8 d) → Calls Try.prog 58 #[.slice A d.length c] w (RetI w0 L (ys, g)) := fun hs hr => by rw [← hg]; exact getServers_spec d hl hs hr
    have Hr2 : Hid (r = (g == 0)) := by unfold Hid; rw [Hr1.out, if_neg k1, if_neg k2, if_pos k3, hg]
    have e3 : (k == 3) = true := by simp [k3]
    clear k3 k2 k1 hg
    go_enter Try.func83, Try.ntmps83
    go_wp2_with (first | (go_at_call 58; refine (hG (by assumption) (by (repeat (first | assumption | exact Rd.own | exact Rd.nil | apply Rd.cons)))).mono ?_; rintro e' w5 ⟨A5, c5, n5, hn5, rfl, hs5⟩; simp only at hs5) | (first | ((with_reducible apply wl_unguard); rfl) | ((with_reducible apply wl_buildSlice); assumption; rfl; (go_simp; rfl); (simp [Value.cells]); omega; intro b w1 hs1) | ((with_reducible apply wl_append); go_must (assumption; rfl; rfl; (repeat (first | exact Out.here _ | apply Out.there)); (repeat (first | assumption | exact Rd.own | exact Rd.nil | apply Rd.cons)); (first | exact B8_one _ | exact I8_one _ | (simp [Value.oneCell'])); (first | omega | (simp only [maxLen]; omega)); omega; intro A1 c1 w1 hs1 hc1; (try ((refine hs1.own_elim ?_ ?_); omega; rintro g1 rfl)); try simp only [Nat.zero_add, List.nil_append] at hs1 hc1)) | ((with_reducible apply wl_store_own); assumption; rfl; (go_simp; rfl); (repeat (first | exact Out.here _ | apply Out.there)); rfl; rfl; omega; intro w1 hs1) | ((with_reducible apply wl_store1); assumption; rfl; (go_simp; rfl); (repeat (first | exact Out.here _ | apply Out.there)); rfl; rfl; simp; intro w1 hs1; (try simp only [List.setIfInBounds_toArray] at hs1); (try simp only [List.set_cons_succ] at hs1); (try simp only [List.set_cons_zero] at hs1)) | ((with_reducible apply wl_load); assumption; rfl; (repeat (first | assumption | exact Cl.blk rfl | apply Cl.cons))) | ((with_reducible apply wl_loadAgg); assumption; rfl; (repeat (first | exact Out.here _ | apply Out.there)); (simp); rfl) | ((with_reducible apply wl_b2s); assumption; rfl; (repeat (first | assumption | exact Rd.own | exact Rd.nil | apply Rd.cons)); first | rfl | (simp [B8_app])) | ((with_reducible apply wl_box); assumption; (go_simp; rfl); intro b w1 hs1; simp only [Value.cells] at hs1) | ((with_reducible apply wl_alloc); assumption; intro b w1 hs1; simp only [Value.cells] at hs1) | ((with_reducible apply wl_store); assumption; rfl; (go_simp; rfl); (repeat (first | exact Out.here _ | apply Out.there)); rfl; (first | (focus (simp [Value.oneCell']; done)) | (simp [Value.cells, Value.oneCell'])); (first | (focus (simp; done)) | (simp [Value.cells])); intro w1 hs1; simp only [upd, Value.cells] at hs1)) | fail)
    go_ret
    exact ⟨by rw [Hr2.out]; rfl, hs5.pick (by (repeat (first | exact Pick.nil _ | exact Pick.tail _ | exact Out.here _ | apply Out.there | apply Pick.cons | apply Pick.drop)))⟩
  have e3 : (k == 3) = false := by simp [k3]
  have Hr2 : Hid (r = false) := by unfold Hid; rw [Hr1.out, if_neg k1, if_neg k2, if_neg k3]
  clear k1 k2 k3
  go_enter Try.func83, Try.ntmps83
  go_wp2_with (first | (first | ((with_reducible apply wl_unguard); rfl) | ((with_reducible apply wl_buildSlice); assumption; rfl; (go_simp; rfl); (simp [Value.cells]); omega; intro b w1 hs1) | ((with_reducible apply wl_append); go_must (assumption; rfl; rfl; (repeat (first | exact Out.here _ | apply Out.there)); (repeat (first | assumption | exact Rd.own | exact Rd.nil | apply Rd.cons)); (first | exact B8_one _ | exact I8_one _ | (simp [Value.oneCell'])); (first | omega | (simp only [maxLen]; omega)); omega; intro A1 c1 w1 hs1 hc1; (try ((refine hs1.own_elim ?_ ?_); omega; rintro g1 rfl)); try simp only [Nat.zero_add, List.nil_append] at hs1 hc1)) | ((with_reducible apply wl_store_own); assumption; rfl; (go_simp; rfl); (repeat (first | exact Out.here _ | apply Out.there)); rfl; rfl; omega; intro w1 hs1) | ((with_reducible apply wl_store1); assumption; rfl; (go_simp; rfl); (repeat (first | exact Out.here _ | apply Out.there)); rfl; rfl; simp; intro w1 hs1; (try simp only [List.setIfInBounds_toArray] at hs1); (try simp only [List.set_cons_succ] at hs1); (try simp only [List.set_cons_zero] at hs1)) | ((with_reducible apply wl_load); assumption; rfl; (repeat (first | assumption | exact Cl.blk rfl | apply Cl.cons))) | ((with_reducible apply wl_loadAgg); assumption; rfl; (repeat (first | exact Out.here _ | apply Out.there)); (simp); rfl) | ((with_reducible apply wl_b2s); assumption; rfl; (repeat (first | assumption | exact Rd.own | exact Rd.nil | apply Rd.cons)); first | rfl | (simp [B8_app])) | ((with_reducible apply wl_box); assumption; (go_simp; rfl); intro b w1 hs1; simp only [Value.cells] at hs1) | ((with_reducible apply wl_alloc); assumption; intro b w1 hs1; simp only [Value.cells] at hs1) | ((with_reducible apply wl_store); assumption; rfl; (go_simp; rfl); (repeat (first | exact Out.here _ | apply Out.there)); rfl; (first | (focus (simp [Value.oneCell']; done)) | (simp [Value.cells, Value.oneCell'])); (first | (focus (simp; done)) | (simp [Value.cells])); intro w1 hs1; simp only [upd, Value.cells] at hs1)) | fail)
  go_ret
  exact ⟨by rw [Hr2.out]; rfl, hs1.pick (by (repeat (first | exact Pick.nil _ | exact Pick.tail _ | exact Out.here _ | apply Out.there | apply Pick.cons | apply Pick.drop)))⟩

/-- RightEntry -/
theorem rightEntry_spec {w0 w : World} {L : List HP} {A : Option Addr} {c : Nat} (x : Ent) (hl : x.d.length ≤ 4294967296) (hs : Sat w0 w L) (hR : Rd w0 L A x.d.length 1 (B8 x.d)) :
    Calls Try.prog 67 #[.agg #[.int .i64 x.t, .int .i64 x.i, .int .i64 x.k, .slice A x.d.length c]] w (RetB w0 L (rightE x)) := by
  obtain ⟨t, i, k, d⟩ := x
  simp only at hl hR ⊢
  obtain ⟨r, hr⟩ : ∃ r, rightE ⟨t, i, k, d⟩ = r := ⟨_, rfl⟩
  rw [hr]
  have Hr := Hid.mk' hr
  clear hr
  by_cases h1 : t < 1
  · have Hr2 : Hid (r = false) := by unfold Hid; rw [← Hr.out]; simp only [rightE]; rw [if_pos (.inl h1)]
    have d0 : decide (t < 1) = true := by simp; omega
    go_enter Try.func67, Try.ntmps67
    go_wp2_with (first | (first | ((with_reducible apply wl_unguard); rfl) | ((with_reducible apply wl_buildSlice); assumption; rfl; (go_simp; rfl); (simp [Value.cells]); omega; intro b w1 hs1) | ((with_reducible apply wl_append); go_must (assumption; rfl; rfl; (repeat (first | exact Out.here _ | apply Out.there)); (repeat (first | assumption | exact Rd.own | exact Rd.nil | apply Rd.cons)); (first | exact B8_one _ | exact I8_one _ | (simp [Value.oneCell'])); (first | omega | (simp only [maxLen]; omega)); omega; intro A1 c1 w1 hs1 hc1; (try ((refine hs1.own_elim ?_ ?_); omega; rintro g1 rfl)); try simp only [Nat.zero_add, List.nil_append] at hs1 hc1)) | ((with_reducible apply wl_store_own); assumption; rfl; (go_simp; rfl); (repeat (first | exact Out.here _ | apply Out.there)); rfl; rfl; omega; intro w1 hs1) | ((with_reducible apply wl_store1); assumption; rfl; (go_simp; rfl); (repeat (first | exact Out.here _ | apply Out.there)); rfl; rfl; simp; intro w1 hs1; (try simp only [List.setIfInBounds_toArray] at hs1); (try simp only [List.set_cons_succ] at hs1); (try simp only [List.set_cons_zero] at hs1)) | ((with_reducible apply wl_load); assumption; rfl; (repeat (first | assumption | exact Cl.blk rfl | apply Cl.cons))) | ((with_reducible apply wl_loadAgg); assumption; rfl; (repeat (first | exact Out.here _ | apply Out.there)); (simp); rfl) | ((with_reducible apply wl_b2s); assumption; rfl; (repeat (first | assumption | exact Rd.own | exact Rd.nil | apply Rd.cons)); first | rfl | (simp [B8_app])) | ((with_reducible apply wl_box); assumption; (go_simp; rfl); intro b w1 hs1; simp only [Value.cells] at hs1) | ((with_reducible apply wl_alloc); assumption; intro b w1 hs1; simp only [Value.cells] at hs1) | ((with_reducible apply wl_store); assumption; rfl; (go_simp; rfl); (repeat (first | exact Out.here _ | apply Out.there)); rfl; (first | (focus (simp [Value.oneCell']; done)) | (simp [Value.cells, Value.oneCell'])); (first | (focus (simp; done)) | (simp [Value.cells])); intro w1 hs1; simp only [upd, Value.cells] at hs1)) | fail)
    go_ret
    exact ⟨by rw [Hr2.out]; rfl, hs1.pick (by (repeat (first | exact Pick.nil _ | exact Pick.tail _ | exact Out.here _ | apply Out.there | apply Pick.cons | apply Pick.drop)))⟩
  have d0 : decide (t < 1) = false := by simp; omega
  by_cases h2 : 1099511627776 ≤ t
  · have Hr2 : Hid (r = false) := by unfold Hid; rw [← Hr.out]; simp only [rightE]; rw [if_pos (.inr (.inl h2))]
    have d1 : decide (1099511627776 ≤ t) = true := by simp; omega
    go_enter Try.func67, Try.ntmps67
    go_wp2_with (first | (first | ((with_reducible apply wl_unguard); rfl) | ((with_reducible apply wl_buildSlice); assumption; rfl; (go_simp; rfl); (simp [Value.cells]); omega; intro b w1 hs1) | ((with_reducible apply wl_append); go_must (assumption; rfl; rfl; (repeat (first | exact Out.here _ | apply Out.there)); (repeat (first | assumption | exact Rd.own | exact Rd.nil | apply Rd.cons)); (first | exact B8_one _ | exact I8_one _ | (simp [Value.oneCell'])); (first | omega | (simp only [maxLen]; omega)); omega; intro A1 c1 w1 hs1 hc1; (try ((refine hs1.own_elim ?_ ?_); omega; rintro g1 rfl)); try simp only [Nat.zero_add, List.nil_append] at hs1 hc1)) | ((with_reducible apply wl_store_own); assumption; rfl; (go_simp; rfl); (repeat (first | exact Out.here _ | apply Out.there)); rfl; rfl; omega; intro w1 hs1) | ((with_reducible apply wl_store1); assumption; rfl; (go_simp; rfl); (repeat (first | exact Out.here _ | apply Out.there)); rfl; rfl; simp; intro w1 hs1; (try simp only [List.setIfInBounds_toArray] at hs1); (try simp only [List.set_cons_succ] at hs1); (try simp only [List.set_cons_zero] at hs1)) | ((with_reducible apply wl_load); assumption; rfl; (repeat (first | assumption | exact Cl.blk rfl | apply Cl.cons))) | ((with_reducible apply wl_loadAgg); assumption; rfl; (repeat (first | exact Out.here _ | apply Out.there)); (simp); rfl) | ((with_reducible apply wl_b2s); assumption; rfl; (repeat (first | assumption | exact Rd.own | exact Rd.nil | apply Rd.cons)); first | rfl | (simp [B8_app])) | ((with_reducible apply wl_box); assumption; (go_simp; rfl); intro b w1 hs1; simp only [Value.cells] at hs1) | ((with_reducible apply wl_alloc); assumption; intro b w1 hs1; simp only [Value.cells] at hs1) | ((with_reducible apply wl_store); assumption; rfl; (go_simp; rfl); (repeat (first | exact Out.here _ | apply Out.there)); rfl; (first | (focus (simp [Value.oneCell']; done)) | (simp [Value.cells, Value.oneCell'])); (first | (focus (simp; done)) | (simp [Value.cells])); intro w1 hs1; simp only [upd, Value.cells] at hs1)) | fail)
    go_ret
    exact ⟨by rw [Hr2.out]; rfl, hs1.pick (by (repeat (first | exact Pick.nil _ | exact Pick.tail _ | exact Out.here _ | apply Out.there | apply Pick.cons | apply Pick.drop)))⟩
  have d1 : decide (1099511627776 ≤ t) = false := by simp; omega
  by_cases h3 : i < 1
  · have Hr2 : Hid (r = false) := by unfold Hid; rw [← Hr.out]; simp only [rightE]; rw [if_pos (.inr (.inr (.inl h3)))]
    have d2 : decide (i < 1) = true := by simp; omega
    go_enter Try.func67, Try.ntmps67
    go_wp2_with (first | (first | ((with_reducible apply wl_unguard); rfl) | ((with_reducible apply wl_buildSlice); assumption; rfl; (go_simp; rfl); (simp [Value.cells]); omega; intro b w1 hs1) | ((with_reducible apply wl_append); go_must (assumption; rfl; rfl; (repeat (first | exact Out.here _ | apply Out.there)); (repeat (first | assumption | exact Rd.own | exact Rd.nil | apply Rd.cons)); (first | exact B8_one _ | exact I8_one _ | (simp [Value.oneCell'])); (first | omega | (simp only [maxLen]; omega)); omega; intro A1 c1 w1 hs1 hc1; (try ((refine hs1.own_elim ?_ ?_); omega; rintro g1 rfl)); try simp only [Nat.zero_add, List.nil_append] at hs1 hc1)) | ((with_reducible apply wl_store_own); assumption; rfl; (go_simp; rfl); (repeat (first | exact Out.here _ | apply Out.there)); rfl; rfl; omega; intro w1 hs1) | ((with_reducible apply wl_store1); assumption; rfl; (go_simp; rfl); (repeat (first | exact Out.here _ | apply Out.there)); rfl; rfl; simp; intro w1 hs1; (try simp only [List.setIfInBounds_toArray] at hs1); (try simp only [List.set_cons_succ] at hs1); (try simp only [List.set_cons_zero] at hs1)) | ((with_reducible apply wl_load); assumption; rfl; (repeat (first | assumption | exact Cl.blk rfl | apply Cl.cons))) | ((with_reducible apply wl_loadAgg); assumption; rfl; (repeat (first | exact Out.here _ | apply Out.there)); (simp); rfl) | ((with_reducible apply wl_b2s); assumption; rfl; (repeat (first | assumption | exact Rd.own | exact Rd.nil | apply Rd.cons)); first | rfl | (simp [B8_app])) | ((with_reducible apply wl_box); assumption; (go_simp; rfl); intro b w1 hs1; simp only [Value.cells] at hs1) | ((with_reducible apply wl_alloc); assumption; intro b w1 hs1; simp only [Value.cells] at hs1) | ((with_reducible apply wl_store); assumption; rfl; (go_simp; rfl); (repeat (first | exact Out.here _ | apply Out.there)); rfl; (first | (focus (simp [Value.oneCell']; done)) | (simp [Value.cells, Value.oneCell'])); (first | (focus (simp; done)) | (simp [Value.cells])); intro w1 hs1; simp only [upd, Value.cells] at hs1)) | fail)
    go_ret
    exact ⟨by rw [Hr2.out]; rfl, hs1.pick (by (repeat (first | exact Pick.nil _ | exact Pick.tail _ | exact Out.here _ | apply Out.there | apply Pick.cons | apply Pick.drop)))⟩
  have d2 : decide (i < 1) = false := by simp; omega
  by_cases h4 : 1099511627776 ≤ i
  · have Hr2 : Hid (r = false) := by unfold Hid; rw [← Hr.out]; simp only [rightE]; rw [if_pos (.inr (.inr (.inr h4)))]
    have d3 : decide (1099511627776 ≤ i) = true := by simp; omega
    go_enter Try.func67, Try.ntmps67
    go_wp2_with (first | (first | ((with_reducible apply wl_unguard); rfl) | ((with_reducible apply wl_buildSlice); assumption; rfl; (go_simp; rfl); (simp [Value.cells]); omega; intro b w1 hs1) | ((with_reducible apply wl_append); go_must (assumption; rfl; rfl; (repeat (first | exact Out.here _ | apply Out.there)); (repeat (first | assumption | exact Rd.own | exact Rd.nil | apply Rd.cons)); (first | exact B8_one _ | exact I8_one _ | (simp [Value.oneCell'])); (first | omega | (simp only [maxLen]; omega)); omega; intro A1 c1 w1 hs1 hc1; (try ((refine hs1.own_elim ?_ ?_); omega; rintro g1 rfl)); try simp only [Nat.zero_add, List.nil_append] at hs1 hc1)) | ((with_reducible apply wl_store_own); assumption; rfl; (go_simp; rfl); (repeat (first | exact Out.here _ | apply Out.there)); rfl; rfl; omega; intro w1 hs1) | ((with_reducible apply wl_store1); assumption; rfl; (go_simp; rfl); (repeat (first | exact Out.here _ | apply Out.there)); rfl; rfl; simp; intro w1 hs1; (try simp only [List.setIfInBounds_toArray] at hs1); (try simp only [List.set_cons_succ] at hs1); (try simp only [List.set_cons_zero] at hs1)) | ((with_reducible apply wl_load); assumption; rfl; (repeat (first | assumption | exact Cl.blk rfl | apply Cl.cons))) | ((with_reducible apply wl_loadAgg); assumption; rfl; (repeat (first | exact Out.here _ | apply Out.there)); (simp); rfl) | ((with_reducible apply wl_b2s); assumption; rfl; (repeat (first | assumption | exact Rd.own | exact Rd.nil | apply Rd.cons)); first | rfl | (simp [B8_app])) | ((with_reducible apply wl_box); assumption; (go_simp; rfl); intro b w1 hs1; simp only [Value.cells] at hs1) | ((with_reducible apply wl_alloc); assumption; intro b w1 hs1; simp only [Value.cells] at hs1) | ((with_reducible apply wl_store); assumption; rfl; (go_simp; rfl); (repeat (first | exact Out.here _ | apply Out.there)); rfl; (first | (focus (simp [Value.oneCell']; done)) | (simp [Value.cells, Value.oneCell'])); (first | (focus (simp; done)) | (simp [Value.cells])); intro w1 hs1; simp only [upd, Value.cells] at hs1)) | fail)
    go_ret
    exact ⟨by rw [Hr2.out]; rfl, hs1.pick (by (repeat (first | exact Pick.nil _ | exact Pick.tail _ | exact Out.here _ | apply Out.there | apply Pick.cons | apply Pick.drop)))⟩
  have d3 : decide (1099511627776 ≤ i) = false := by simp; omega
  have Hr1 : Hid (r = if k = 1 then ((d.length : Int) == 0) else if k = 2 then decide ((d.length : Int) ≤ 4096) else if k = 3 then ((getServers d).2 == 0) else false) := by
    unfold Hid; rw [← Hr.out]; simp only [rightE]; rw [if_neg (by omega)]
  by_cases k1 : k = 1
  · have Hr2 : Hid (r = ((d.length : Int) == 0)) := by unfold Hid; rw [Hr1.out, if_pos k1]
    have e1 : (k == 1) = true := by simp [k1]
    clear k1
    go_enter Try.func67, Try.ntmps67
    go_wp2_with (first | (first | ((with_reducible apply wl_unguard); rfl) | ((with_reducible apply wl_buildSlice); assumption; rfl; (go_simp; rfl); (simp [Value.cells]); omega; intro b w1 hs1) | ((with_reducible apply wl_append); go_must (assumption; rfl; rfl; (repeat (first | exact Out.here _ | apply Out.there)); (repeat (first | assumption | exact Rd.own | exact Rd.nil | apply Rd.cons)); (first | exact B8_one _ | exact I8_one _ | (simp [Value.oneCell'])); (first | omega | (simp only [maxLen]; omega)); omega; intro A1 c1 w1 hs1 hc1; (try ((refine hs1.own_elim ?_ ?_); omega; rintro g1 rfl)); try simp only [Nat.zero_add, List.nil_append] at hs1 hc1)) | ((with_reducible apply wl_store_own); assumption; rfl; (go_simp; rfl); (repeat (first | exact Out.here _ | apply Out.there)); rfl; rfl; omega; intro w1 hs1) | ((with_reducible apply wl_store1); assumption; rfl; (go_simp; rfl); (repeat (first | exact Out.here _ | apply Out.there)); rfl; rfl; simp; intro w1 hs1; (try simp only [List.setIfInBounds_toArray] at hs1); (try simp only [List.set_cons_succ] at hs1); (try simp only [List.set_cons_zero] at hs1)) | ((with_reducible apply wl_load); assumption; rfl; (repeat (first | assumption | exact Cl.blk rfl | apply Cl.cons))) | ((with_reducible apply wl_loadAgg); assumption; rfl; (repeat (first | exact Out.here _ | apply Out.there)); (simp); rfl) | ((with_reducible apply wl_b2s); assumption; rfl; (repeat (first | assumption | exact Rd.own | exact Rd.nil | apply Rd.cons)); first | rfl | (simp [B8_app])) | ((with_reducible apply wl_box); assumption; (go_simp; rfl); intro b w1 hs1; simp only [Value.cells] at hs1) | ((with_reducible apply wl_alloc); assumption; intro b w1 hs1; simp only [Value.cells] at hs1) | ((with_reducible apply wl_store); assumption; rfl; (go_simp; rfl); (repeat (first | exact Out.here _ | apply Out.there)); rfl; (first | (focus (simp [Value.oneCell']; done)) | (simp [Value.cells, Value.oneCell'])); (first | (focus (simp; done)) | (simp [Value.cells])); intro w1 hs1; simp only [upd, Value.cells] at hs1)) | fail)
    go_ret
    exact ⟨by rw [Hr2.out]; rfl, hs1.pick (by (repeat (first | exact Pick.nil _ | exact Pick.tail _ | exact Out.here _ | apply Out.there | apply Pick.cons | apply Pick.drop)))⟩
  have e1 : (k == 1) = false := by simp [k1]
  by_cases k2 : k = 2
  · have Hr2 : Hid (r = decide ((d.length : Int) ≤ 4096)) := by unfold Hid; rw [Hr1.out, if_neg k1, if_pos k2]
    have e2 : (k == 2) = true := by simp [k2]
    clear k2 k1
    go_enter Try.func67, Try.ntmps67
    go_wp2_with (first | (first | ((with_reducible apply wl_unguard); rfl) | ((with_reducible apply wl_buildSlice); assumption; rfl; (go_simp; rfl); (simp [Value.cells]); omega; intro b w1 hs1) | ((with_reducible apply wl_append); go_must (assumption; rfl; rfl; (repeat (first | exact Out.here _ | apply Out.there)); (repeat (first | assumption | exact Rd.own | exact Rd.nil | apply Rd.cons)); (first | exact B8_one _ | exact I8_one _ | (simp [Value.oneCell'])); (first | omega | (simp only [maxLen]; omega)); omega; intro A1 c1 w1 hs1 hc1; (try ((refine hs1.own_elim ?_ ?_); omega; rintro g1 rfl)); try simp only [Nat.zero_add, List.nil_append] at hs1 hc1)) | ((with_reducible apply wl_store_own); assumption; rfl; (go_simp; rfl); (repeat (first | exact Out.here _ | apply Out.there)); rfl; rfl; omega; intro w1 hs1) | ((with_reducible apply wl_store1); assumption; rfl; (go_simp; rfl); (repeat (first | exact Out.here _ | apply Out.there)); rfl; rfl; simp; intro w1 hs1; (try simp only [List.setIfInBounds_toArray] at hs1); (try simp only [List.set_cons_succ] at hs1); (try simp only [List.set_cons_zero] at hs1)) | ((with_reducible apply wl_load); assumption; rfl; (repeat (first | assumption | exact Cl.blk rfl | apply Cl.cons))) | ((with_reducible apply wl_loadAgg); assumption; rfl; (repeat (first | exact Out.here _ | apply Out.there)); (simp); rfl) | ((with_reducible apply wl_b2s); assumption; rfl; (repeat (first | assumption | exact Rd.own | exact Rd.nil | apply Rd.cons)); first | rfl | (simp [B8_app])) | ((with_reducible apply wl_box); assumption; (go_simp; rfl); intro b w1 hs1; simp only [Value.cells] at hs1) | ((with_reducible apply wl_alloc); assumption; intro b w1 hs1; simp only [Value.cells] at hs1) | ((with_reducible apply wl_store); assumption; rfl; (go_simp; rfl); (repeat (first | exact Out.here _ | apply Out.there)); rfl; (first | (focus (simp [Value.oneCell']; done)) | (simp [Value.cells, Value.oneCell'])); (first | (focus (simp; done)) | (simp [Value.cells])); intro w1 hs1; simp only [upd, Value.cells] at hs1)) | fail)
    go_ret
    exact ⟨by rw [Hr2.out]; rfl, hs1.pick (by (repeat (first | exact Pick.nil _ | exact Pick.tail _ | exact Out.here _ | apply Out.there | apply Pick.cons | apply Pick.drop)))⟩
  have e2 : (k == 2) = false := by simp [k2]
  by_cases k3 : k = 3
  · obtain ⟨⟨ys, g⟩, hg⟩ : ∃ x, getServers d = x := ⟨_, rfl⟩
    have hG : ∀ {w : World} {L : List HP} {A : Option Addr}, Sat w0 w L → Rd w0 L A d.length 1 (B8 d) → Calls Try.prog 61 #[.slice A d.length c] w (RetI w0 L (ys, g)) := fun hs hr => by rw [← hg]; exact refGetServers_spec d hl hs hr
    have Hr2 : Hid (r = (g == 0)) := by unfold Hid; rw [Hr1.out, if_neg k1, if_neg k2, if_pos k3, hg]
    have e3 : (k == 3) = true := by simp [k3]
    clear k3 k2 k1 hg
    go_enter Try.func67, Try.ntmps67
    go_wp2_with (first | (go_at_call 61; refine (hG (by assumption) (by (repeat (first | assumption | exact Rd.own | exact Rd.nil | apply Rd.cons)))).mono ?_; rintro e' w5 ⟨A5, c5, n5, hn5, rfl, hs5⟩; simp only at hs5) | (first | ((with_reducible apply wl_unguard); rfl) | ((with_reducible apply wl_buildSlice); assumption; rfl; (go_simp; rfl); (simp [Value.cells]); omega; intro b w1 hs1) | ((with_reducible apply wl_append); go_must (assumption; rfl; rfl; (repeat (first | exact Out.here _ | apply Out.there)); (repeat (first | assumption | exact Rd.own | exact Rd.nil | apply Rd.cons)); (first | exact B8_one _ | exact I8_one _ | (simp [Value.oneCell'])); (first | omega | (simp only [maxLen]; omega)); omega; intro A1 c1 w1 hs1 hc1; (try ((refine hs1.own_elim ?_ ?_); omega; rintro g1 rfl)); try simp only [Nat.zero_add, List.nil_append] at hs1 hc1)) | ((with_reducible apply wl_store_own); assumption; rfl; (go_simp; rfl); (repeat (first | exact Out.here _ | apply Out.there)); rfl; rfl; omega; intro w1 hs1) | ((with_reducible apply wl_store1); assumption; rfl; (go_simp; rfl); (repeat (first | exact Out.here _ | apply Out.there)); rfl; rfl; simp; intro w1 hs1; (try simp only [List.setIfInBounds_toArray] at hs1); (try simp only [List.set_cons_succ] at hs1); (try simp only [List.set_cons_zero] at hs1)) | ((with_reducible apply wl_load); assumption; rfl; (repeat (first | assumption | exact Cl.blk rfl | apply Cl.cons))) | ((with_reducible apply wl_loadAgg); assumption; rfl; (repeat (first | exact Out.here _ | apply Out.there)); (simp); rfl) | ((with_reducible apply wl_b2s); assumption; rfl; (repeat (first | assumption | exact Rd.own | exact Rd.nil | apply Rd.cons)); first | rfl | (simp [B8_app])) | ((with_reducible apply wl_box); assumption; (go_simp; rfl); intro b w1 hs1; simp only [Value.cells] at hs1) | ((with_reducible apply wl_alloc); assumption; intro b w1 hs1; simp only [Value.cells] at hs1) | ((with_reducible apply wl_store); assumption; rfl; (go_simp; rfl); (repeat (first | exact Out.here _ | apply Out.there)); rfl; (first | (focus (simp [Value.oneCell']; done)) | (simp [Value.cells, Value.oneCell'])); (first | (focus (simp; done)) | (simp [Value.cells])); intro w1 hs1; simp only [upd, Value.cells] at hs1)) | fail)
    go_ret
    exact ⟨by rw [Hr2.out]; rfl, hs5.pick (by (repeat (first | exact Pick.nil _ | exact Pick.tail _ | exact Out.here _ | apply Out.there | apply Pick.cons | apply Pick.drop)))⟩
  have e3 : (k == 3) = false := by simp [k3]
  have Hr2 : Hid (r = false) := by unfold Hid; rw [Hr1.out, if_neg k1, if_neg k2, if_neg k3]
  clear k1 k2 k3
  go_enter Try.func67, Try.ntmps67
  go_wp2_with (first | (first | ((with_reducible apply wl_unguard); rfl) | ((with_reducible apply wl_buildSlice); assumption; rfl; (go_simp; rfl); (simp [Value.cells]); omega; intro b w1 hs1) | ((with_reducible apply wl_append); go_must (assumption; rfl; rfl; (repeat (first | exact Out.here _ | apply Out.there)); (repeat (first | assumption | exact Rd.own | exact Rd.nil | apply Rd.cons)); (first | exact B8_one _ | exact I8_one _ | (simp [Value.oneCell'])); (first | omega | (simp only [maxLen]; omega)); omega; intro A1 c1 w1 hs1 hc1; (try ((refine hs1.own_elim ?_ ?_); omega; rintro g1 rfl)); try simp only [Nat.zero_add, List.nil_append] at hs1 hc1)) | ((with_reducible apply wl_store_own); assumption; rfl; (go_simp; rfl); (repeat (first | exact Out.here _ | apply Out.there)); rfl; rfl; omega; intro w1 hs1) | ((with_reducible apply wl_store1); assumption; rfl; (go_simp; rfl); (repeat (first | exact Out.here _ | apply Out.there)); rfl; rfl; simp; intro w1 hs1; (try simp only [List.setIfInBounds_toArray] at hs1); (try simp only [List.set_cons_succ] at hs1); (try simp only [List.set_cons_zero] at hs1)) | ((with_reducible apply wl_load); assumption; rfl; (repeat (first | assumption | exact Cl.blk rfl | apply Cl.cons))) | ((with_reducible apply wl_loadAgg); assumption; rfl; (repeat (first | exact Out.here _ | apply Out.there)); (simp); rfl) | ((with_reducible apply wl_b2s); assumption; rfl; (repeat (first | assumption | exact Rd.own | exact Rd.nil | apply Rd.cons)); first | rfl | (simp [B8_app])) | ((with_reducible apply wl_box); assumption; (go_simp; rfl); intro b w1 hs1; simp only [Value.cells] at hs1) | ((with_reducible apply wl_alloc); assumption; intro b w1 hs1; simp only [Value.cells] at hs1) | ((with_reducible apply wl_store); assumption; rfl; (go_simp; rfl); (repeat (first | exact Out.here _ | apply Out.there)); rfl; (first | (focus (simp [Value.oneCell']; done)) | (simp [Value.cells, Value.oneCell'])); (first | (focus (simp; done)) | (simp [Value.cells])); intro w1 hs1; simp only [upd, Value.cells] at hs1)) | fail)
  go_ret
  exact ⟨by rw [Hr2.out]; rfl, hs1.pick (by (repeat (first | exact Pick.nil _ | exact Pick.tail _ | exact Out.here _ | apply Out.there | apply Pick.cons | apply Pick.drop)))⟩
end Go.Proofs.Ytcpcdhlfdabbnaa

/-
  WireServers: the walk.
-/
namespace Go.Proofs.Ytcpcdhlfdabbnaa
open Go Go.RowKit Sl Go.Shelf

theorem I8_one (l : List Int) : ∀ u ∈ I8 l, u.oneCell' = true := by intro u hu; simp [I8] at hu; obtain ⟨c, _, rfl⟩ := hu; rfl

theorem getServers_back {b : List UInt8} {ys : List Int} (h : getServers b = (ys, 0)) : putServers ys = (b, 0) := by
  unfold getServers at h
  simp only at h
  split at h
  · rename_i h2
    simp only [Prod.mk.injEq, and_true] at h
    subst h
    simp [putServers, h2.1, h2.2]
  · simp at h

theorem getServers_small {b : List UInt8} {ys : List Int} {g : Int} (h : getServers b = (ys, g)) : ys.length ≤ 7 := by
  unfold getServers at h
  simp only at h
  split at h
  · simp only [Prod.mk.injEq] at h
    rw [← h.1, rdMany_length]; omega
  · simp only [Prod.mk.injEq] at h
    rw [← h.1]; simp

end Go.Proofs.Ytcpcdhlfdabbnaa

/-
  WireReads: the walk.
-/
namespace Go.Proofs.Ytcpcdhlfdabbnaa
open Go Go.RowKit Sl Go.Shelf

theorem rdBytes_len {e : Int} {l y l2 : List UInt8} {e2 : Int} (h : rdBytes e l = (y, e2, l2)) : l2.length ≤ l.length ∧ y.length ≤ l.length := by
  obtain ⟨⟨v, e3, l3⟩, hx⟩ : ∃ x, rdNumber e l = x := ⟨_, rfl⟩
  obtain ⟨_, _, hl, _⟩ := rdNumber_ok hx
  unfold rdBytes at h
  rw [hx] at h
  simp only at h
  split at h
  · cases h; simp
  · split at h
    · cases h; simp
    · split at h
      · cases h; simp
      · cases h; simp; omega

theorem RR.err {w0 : World} {L : List HP} {buf : HP} {q : Nat} {e : Int} {l : List UInt8} : Cl w0 (RR buf q e l :: L) ⟨q, 2, none⟩ (.int .i64 e) := by
  intro w hs
  obtain ⟨A, c, B, at_, h1, h2, h3, rfl, h5, h6⟩ := RR.opened hs
  exact Cl.blk (L := L) (cur := #[.slice A B.length c, .int .i64 at_, .int .i64 e]) rfl w h6

end Go.Proofs.Ytcpcdhlfdabbnaa

/-
  Entries as bytes, and back: EntryBytes, PutEntry, ReadEntry, GetEntry (the program's and the document's).
-/
namespace Go.Proofs.Ytcpcdhlfdabbnaa
open Go Go.RowKit Sl Go.Shelf

def entBytes (x : Ent) : List UInt8 := num x.t.toNat ++ num x.i.toNat ++ num x.k.toNat ++ (num x.d.length ++ x.d)
def putEntry (x : Ent) : List UInt8 × Int := if rightE x then (entBytes x, 0) else ([], 1)
/-- An entry read: the entry, the reader's error, what is left. -/
def rdEntry (e : Int) (b : List UInt8) : Ent × Int × List UInt8 :=
  let t := rdNumber e b
  let i := rdNumber t.2.1 t.2.2
  let k := rdNumber i.2.1 i.2.2
  let d := rdBytes k.2.1 k.2.2
  (⟨t.1, i.1, k.1, d.1⟩, d.2)

def getEntry (b : List UInt8) : Ent × Int :=
  if rdEnd (rdEntry 0 b).2.1 (rdEntry 0 b).2.2 = 0 ∧ rightE (rdEntry 0 b).1 = true then ((rdEntry 0 b).1, 0) else (⟨0, 0, 0, []⟩, 21)

theorem putServers_len_le {xs : List Int} {d : List UInt8} (h : putServers xs = (d, 0)) : d.length ≤ 64 := by
  unfold putServers at h
  split at h
  · rename_i hok
    obtain ⟨⟨h1, h7⟩, hr⟩ := (okServers_iff xs).1 hok
    have hb := rise_bounds (by omega) hr
    simp only [Prod.mk.injEq, and_true] at h
    rw [← h]
    unfold srvBytes
    have hn := num_len6 xs.length (by omega)
    have hs : ∀ (l : List Int), (∀ x ∈ l, 0 ≤ x ∧ x < 16) → ((l.map fun n => num n.toNat).flatten).length ≤ 7 * l.length := by
      intro l
      induction l with
      | nil => intro _; simp
      | cons x l ih =>
        intro hb
        have h1 := ih (fun y hy => hb y (by simp [hy]))
        have h2 := num_len6 x.toNat (by have := hb x (by simp); omega)
        simp only [List.map_cons, List.flatten_cons, List.length_append, List.length_cons]
        omega
    have := hs xs hb
    simp only [List.length_append]
    omega
  · simp at h

theorem rightE_iff {x : Ent} (h : rightE x = true) : 1 ≤ x.t ∧ x.t < 1099511627776 ∧ 1 ≤ x.i ∧ x.i < 1099511627776 ∧ 1 ≤ x.k ∧ x.k ≤ 3 ∧ x.d.length ≤ 4096 := by
  unfold rightE at h
  split at h
  · cases h
  · rename_i hb
    have e1 : 1 ≤ x.t := by omega
    have e2 : x.t < 1099511627776 := by omega
    have e3 : 1 ≤ x.i := by omega
    have e4 : x.i < 1099511627776 := by omega
    split at h
    · have := of_decide_eq_true (by simpa using h : decide (x.d = []) = true)
      refine ⟨e1, e2, e3, e4, by omega, by omega, ?_⟩
      rw [this]; simp
    · split at h
      · have := of_decide_eq_true h
        exact ⟨e1, e2, e3, e4, by omega, by omega, by omega⟩
      · split at h
        · have hz : (getServers x.d).2 = 0 := by simpa using h
          have hp := getServers_back (b := x.d) (ys := (getServers x.d).1) (by rw [← hz])
          have := putServers_len_le hp
          exact ⟨e1, e2, e3, e4, by omega, by omega, by omega⟩
        · cases h

set_option maxHeartbeats 1000000
set_option maxRecDepth 8000

theorem RdBB.four {w0 : World} {L : List HP} {E : TypeId} {b c : Nat} {A B C D : Option Addr} {ca cb cc cd na nb nc nd : Nat} {la lb lc ld : List UInt8} (ha : Rd w0 L A na 1 (B8 la)) (hb : Rd w0 L B nb 1 (B8 lb)) (hc : Rd w0 L C nc 1 (B8 lc)) (hd : Rd w0 L D nd 1 (B8 ld)) (ea : na = la.length) (eb : nb = lb.length) (ec : nc = lc.length) (ed : nd = ld.length) :
    RdBB w0 (own E 1 (some ⟨b, 0, none⟩) c 4 [.slice A na ca, .slice B nb cb, .slice C nc cc, .slice D nd cd] :: L) (some ⟨b, 0, none⟩) 4 [la, lb, lc, ld] := by
  subst ea eb ec ed
  refine ⟨_, Rd.own, rfl, rfl, fun i l hl => ?_⟩
  match i, hl with
  | 0, hl => cases hl; exact ⟨A, ca, rfl, ha.cons⟩
  | 1, hl => cases hl; exact ⟨B, cb, rfl, hb.cons⟩
  | 2, hl => cases hl; exact ⟨C, cc, rfl, hc.cons⟩
  | 3, hl => cases hl; exact ⟨D, cd, rfl, hd.cons⟩
  | i + 4, hl => simp at hl


/-- PutEntry. -/
theorem putEntry_spec {w0 w : World} {L : List HP} {A : Option Addr} {c : Nat} (x : Ent) (hl : x.d.length ≤ 4294967296) (hs : Sat w0 w L) (hR : Rd w0 L A x.d.length 1 (B8 x.d)) :
    Calls Try.prog 68 #[.agg #[.int .i64 x.t, .int .i64 x.i, .int .i64 x.k, .slice A x.d.length c]] w (RetT w0 L (putEntry x)) := by
  have hk := fun (w : World) (L : List HP) (hs : Sat w0 w L) (hR : Rd w0 L A x.d.length 1 (B8 x.d)) => right_spec (c := c) x hl hs hR
  obtain ⟨r, hr⟩ : ∃ r, rightE x = r := ⟨_, rfl⟩
  have hp : putEntry x = if r then (entBytes x, 0) else ([], 1) := by rw [← hr]; rfl
  rw [hr] at hk
  cases r with
  | false =>
    rw [hp]
    clear hr hp
    obtain ⟨t, i, k, d⟩ := x
    simp only at hl hR hk ⊢
    go_enter Try.func68, Try.ntmps68
    go_wp2_with (first | (go_at_call 83; refine (hk _ _ hs1 (by (repeat (first | assumption | exact Rd.own | exact Rd.nil | apply Rd.cons)))).mono ?_; rintro e' w2 ⟨rfl, hs2⟩) | (first | ((with_reducible apply wl_unguard); rfl) | ((with_reducible apply wl_buildSlice); assumption; rfl; (go_simp; rfl); (simp [Value.cells]); omega; intro b w1 hs1) | ((with_reducible apply wl_append); go_must (assumption; rfl; rfl; (repeat (first | exact Out.here _ | apply Out.there)); (repeat (first | assumption | exact Rd.own | exact Rd.nil | apply Rd.cons)); (first | exact B8_one _ | exact I8_one _ | (simp [Value.oneCell'])); (first | omega | (simp only [maxLen]; omega)); omega; intro A1 c1 w1 hs1 hc1; (try ((refine hs1.own_elim ?_ ?_); omega; rintro g1 rfl)); try simp only [Nat.zero_add, List.nil_append] at hs1 hc1)) | ((with_reducible apply wl_store_own); assumption; rfl; (go_simp; rfl); (repeat (first | exact Out.here _ | apply Out.there)); rfl; rfl; omega; intro w1 hs1) | ((with_reducible apply wl_store1); assumption; rfl; (go_simp; rfl); (repeat (first | exact Out.here _ | apply Out.there)); rfl; rfl; simp; intro w1 hs1; (try simp only [List.setIfInBounds_toArray] at hs1); (try simp only [List.set_cons_succ] at hs1); (try simp only [List.set_cons_zero] at hs1)) | ((with_reducible apply wl_load); assumption; rfl; (repeat (first | assumption | exact Cl.blk rfl | apply Cl.cons))) | ((with_reducible apply wl_loadAgg); assumption; rfl; (repeat (first | exact Out.here _ | apply Out.there)); (simp); rfl) | ((with_reducible apply wl_b2s); assumption; rfl; (repeat (first | assumption | exact Rd.own | exact Rd.nil | apply Rd.cons)); first | rfl | (simp [B8_app])) | ((with_reducible apply wl_box); assumption; (go_simp; rfl); intro b w1 hs1; simp only [Value.cells] at hs1) | ((with_reducible apply wl_alloc); assumption; intro b w1 hs1; simp only [Value.cells] at hs1) | ((with_reducible apply wl_store); assumption; rfl; (go_simp; rfl); (repeat (first | exact Out.here _ | apply Out.there)); rfl; (first | (focus (simp [Value.oneCell']; done)) | (simp [Value.cells, Value.oneCell'])); (first | (focus (simp; done)) | (simp [Value.cells])); intro w1 hs1; simp only [upd, Value.cells] at hs1)) | fail)
    go_ret2
    exact RetT.mk (hs2.own_nil _ _) (by (repeat (first | exact Pick.nil _ | exact Pick.tail _ | exact Out.here _ | apply Out.there | apply Pick.cons | apply Pick.drop))) rfl rfl rfl
  | true =>
    obtain ⟨h1, h2, h3, h4, h5, h6, hl2⟩ := rightE_iff hr
    obtain ⟨t, i, k, d⟩ := x
    simp only at hl hl2 hR hk h1 h2 h3 h4 h5 h6
    obtain ⟨zt, hzt⟩ : ∃ z, z = num t.toNat := ⟨_, rfl⟩
    obtain ⟨zi, hzi⟩ : ∃ z, z = num i.toNat := ⟨_, rfl⟩
    obtain ⟨zk, hzk⟩ : ∃ z, z = num k.toNat := ⟨_, rfl⟩
    obtain ⟨zd, hzd⟩ : ∃ z, z = num d.length ++ d := ⟨_, rfl⟩
    have ht : zt.length ≤ 7 := by rw [hzt]; exact num_len6 _ (by omega)
    have hi : zi.length ≤ 7 := by rw [hzi]; exact num_len6 _ (by omega)
    have hk2 : zk.length ≤ 7 := by rw [hzk]; exact num_len6 _ (by omega)
    have hd : zd.length ≤ 5000 := by rw [hzd]; have := num_len6 d.length (by omega); simp; omega
    have ct := fun (w : World) (L : List HP) (h : Sat w0 w L) => number_spec t (by omega) (by omega) h
    have ci := fun (w : World) (L : List HP) (h : Sat w0 w L) => number_spec i (by omega) (by omega) h
    have ck := fun (w : World) (L : List HP) (h : Sat w0 w L) => number_spec k (by omega) (by omega) h
    have cd := fun (w : World) (L : List HP) (h : Sat w0 w L) (hr : Rd w0 L A d.length 1 (B8 d)) => putBytes_spec (c := c) d (by omega) h hr
    rw [show putBytes d = (zd, 0) from by rw [hzd]; exact if_neg (by omega)] at cd
    rw [← hzt] at ct; rw [← hzi] at ci; rw [← hzk] at ck
    obtain ⟨z, hz⟩ : ∃ z, z = zt ++ zi ++ zk ++ zd := ⟨_, rfl⟩
    have HF : putEntry ⟨t, i, k, d⟩ = (z, 0) := by rw [hp, if_pos rfl, hz, hzt, hzi, hzk, hzd]; rfl
    have hzl : z.length ≤ 6000 := by rw [hz]; simp; omega
    have Hz : Hid ([zt, zi, zk, zd].flatten = z) := by rw [hz]; unfold Hid; simp
    rw [HF]
    clear hzt hzi hzk hzd hr hp HF hz
    go_enter Try.func68, Try.ntmps68
    go_wp2_with (first | (go_at_call 83; refine (hk _ _ hs1 (by (repeat (first | assumption | exact Rd.own | exact Rd.nil | apply Rd.cons)))).mono ?_; rintro e' w2 ⟨rfl, hs2⟩) | (go_at_call 84; refine (cd _ _ hs2 (by (repeat (first | assumption | exact Rd.own | exact Rd.nil | apply Rd.cons)))).mono ?_; rintro e' w3 ⟨A3, c3, rfl, hs3⟩; simp only at hs3) | (first | ((with_reducible apply wl_unguard); rfl) | ((with_reducible apply wl_buildSlice); assumption; rfl; (go_simp; rfl); (simp [Value.cells]); omega; intro b w1 hs1) | ((with_reducible apply wl_append); go_must (assumption; rfl; rfl; (repeat (first | exact Out.here _ | apply Out.there)); (repeat (first | assumption | exact Rd.own | exact Rd.nil | apply Rd.cons)); (first | exact B8_one _ | exact I8_one _ | (simp [Value.oneCell'])); (first | omega | (simp only [maxLen]; omega)); omega; intro A1 c1 w1 hs1 hc1; (try ((refine hs1.own_elim ?_ ?_); omega; rintro g1 rfl)); try simp only [Nat.zero_add, List.nil_append] at hs1 hc1)) | ((with_reducible apply wl_store_own); assumption; rfl; (go_simp; rfl); (repeat (first | exact Out.here _ | apply Out.there)); rfl; rfl; omega; intro w1 hs1) | ((with_reducible apply wl_store1); assumption; rfl; (go_simp; rfl); (repeat (first | exact Out.here _ | apply Out.there)); rfl; rfl; simp; intro w1 hs1; (try simp only [List.setIfInBounds_toArray] at hs1); (try simp only [List.set_cons_succ] at hs1); (try simp only [List.set_cons_zero] at hs1)) | ((with_reducible apply wl_load); assumption; rfl; (repeat (first | assumption | exact Cl.blk rfl | apply Cl.cons))) | ((with_reducible apply wl_loadAgg); assumption; rfl; (repeat (first | exact Out.here _ | apply Out.there)); (simp); rfl) | ((with_reducible apply wl_b2s); assumption; rfl; (repeat (first | assumption | exact Rd.own | exact Rd.nil | apply Rd.cons)); first | rfl | (simp [B8_app])) | ((with_reducible apply wl_box); assumption; (go_simp; rfl); intro b w1 hs1; simp only [Value.cells] at hs1) | ((with_reducible apply wl_alloc); assumption; intro b w1 hs1; simp only [Value.cells] at hs1) | ((with_reducible apply wl_store); assumption; rfl; (go_simp; rfl); (repeat (first | exact Out.here _ | apply Out.there)); rfl; (first | (focus (simp [Value.oneCell']; done)) | (simp [Value.cells, Value.oneCell'])); (first | (focus (simp; done)) | (simp [Value.cells])); intro w1 hs1; simp only [upd, Value.cells] at hs1)) | fail)
    refine rg_start rfl hs3 (fun wr0 hsr0 => ?_)
    refine rg_take (i := 0) (v := ?_) rfl (by kernel_rfl) (by kernel_rfl) (by kernel_rfl) (fun _ _ _ h => h) (by with_unfolding_all rfl) (by assumption) ?_ ?_
    rotate_left
    · intro w hSw; (first | (go_simp; done) | (go_simp; with_reducible rfl) | (go_simp; rfl))
    (try simp only [Act.put, List.setIfInBounds_toArray, List.set_cons_zero, List.set_cons_succ])
    refine rg_take (i := 1) (v := ?_) rfl (by kernel_rfl) (by kernel_rfl) (by kernel_rfl) (fun _ _ _ h => h) (by with_unfolding_all rfl) (by assumption) ?_ ?_
    rotate_left
    · intro w hSw; ((with_reducible apply yl_load); assumption; rfl; (repeat (first | assumption | ((with_reducible apply Cl.blkL); exact rfl) | with_reducible apply Cl.cons)); rfl)
    (try simp only [Act.put, List.setIfInBounds_toArray, List.set_cons_zero, List.set_cons_succ])
    refine rg_take (i := 3) (v := ?_) rfl (by kernel_rfl) (by kernel_rfl) (by kernel_rfl) (fun _ _ _ h => h) (by with_unfolding_all rfl) (by assumption) ?_ ?_
    rotate_left
    · intro w hSw; (first | (go_simp; done) | (go_simp; with_reducible rfl) | (go_simp; rfl))
    (try simp only [Act.put, List.setIfInBounds_toArray, List.set_cons_zero, List.set_cons_succ])
    refine rg_take (i := 4) (v := ?_) rfl (by kernel_rfl) (by kernel_rfl) (by kernel_rfl) (fun _ _ _ h => h) (by with_unfolding_all rfl) (by assumption) ?_ ?_
    rotate_left
    · intro w hSw; ((with_reducible apply yl_load); assumption; rfl; (repeat (first | assumption | ((with_reducible apply Cl.blkL); exact rfl) | with_reducible apply Cl.cons)); rfl)
    (try simp only [Act.put, List.setIfInBounds_toArray, List.set_cons_zero, List.set_cons_succ])
    refine rg_take (i := 6) (v := ?_) rfl (by kernel_rfl) (by kernel_rfl) (by kernel_rfl) (fun _ _ _ h => h) (by with_unfolding_all rfl) (by assumption) ?_ ?_
    rotate_left
    · intro w hSw; (first | (go_simp; done) | (go_simp; with_reducible rfl) | (go_simp; rfl))
    (try simp only [Act.put, List.setIfInBounds_toArray, List.set_cons_zero, List.set_cons_succ])
    refine rg_take (i := 7) (v := ?_) rfl (by kernel_rfl) (by kernel_rfl) (by kernel_rfl) (fun _ _ _ h => h) (by with_unfolding_all rfl) (by assumption) ?_ ?_
    rotate_left
    · intro w hSw; ((with_reducible apply yl_load); assumption; rfl; (repeat (first | assumption | ((with_reducible apply Cl.blkL); exact rfl) | with_reducible apply Cl.cons)); rfl)
    (try simp only [Act.put, List.setIfInBounds_toArray, List.set_cons_zero, List.set_cons_succ])
    refine rg_take (i := 9) (v := ?_) rfl (by kernel_rfl) (by kernel_rfl) (by kernel_rfl) (fun _ _ _ h => h) (by with_unfolding_all rfl) (by assumption) ?_ ?_
    rotate_left
    · intro w hSw; (first | (go_simp; done) | (go_simp; with_reducible rfl) | (go_simp; rfl))
    (try simp only [Act.put, List.setIfInBounds_toArray, List.set_cons_zero, List.set_cons_succ])
    refine rg_one (i := 2) (by kernel_rfl) rfl (by with_unfolding_all rfl) (fun K hK => ?_)
    go_simp
    (refine (ct _ _ hsr0).mono ?_; rintro e' w4 ⟨A4, c4, rfl, hs4⟩)
    (try go_wp2_with fail)
    refine rg_back (hK := hK) ?_ (fun hsk => ?_)
    · (first | assumption | (apply Sat.drew; assumption) | (apply Sat.pick; assumption; (repeat (first | exact Pick.nil _ | exact Pick.tail _ | exact Out.here _ | apply Out.there | apply Pick.cons | apply Pick.drop))))
    clear hK K
    have hsz := hs4
    refine rg_more (L' := _) (Sat.pickOf hs4 (by (repeat (first | exact Pick.nil _ | exact Pick.tail _ | exact Out.here _ | apply Out.there | apply Pick.cons | apply Pick.drop)))) ?_
    (try simp only [Act.put, List.setIfInBounds_toArray, List.set_cons_zero, List.set_cons_succ])
    refine rg_one (i := 5) (by kernel_rfl) rfl (by with_unfolding_all rfl) (fun K hK => ?_)
    go_simp
    (refine (ci _ _ hs4).mono ?_; rintro e' w5 ⟨A5, c5, rfl, hs5⟩)
    (try go_wp2_with fail)
    refine rg_back (hK := hK) ?_ (fun hsk => ?_)
    · (first | assumption | (apply Sat.drew; assumption) | (apply Sat.pick; assumption; (repeat (first | exact Pick.nil _ | exact Pick.tail _ | exact Out.here _ | apply Out.there | apply Pick.cons | apply Pick.drop))))
    clear hK K
    have hsz := hs5
    refine rg_more (L' := _) (Sat.pickOf hs5 (by (repeat (first | exact Pick.nil _ | exact Pick.tail _ | exact Out.here _ | apply Out.there | apply Pick.cons | apply Pick.drop)))) ?_
    (try simp only [Act.put, List.setIfInBounds_toArray, List.set_cons_zero, List.set_cons_succ])
    refine rg_one (i := 8) (by kernel_rfl) rfl (by with_unfolding_all rfl) (fun K hK => ?_)
    go_simp
    (refine (ck _ _ hs5).mono ?_; rintro e' w6 ⟨A6, c6, rfl, hs6⟩)
    (try go_wp2_with fail)
    refine rg_back (hK := hK) ?_ (fun hsk => ?_)
    · (first | assumption | (apply Sat.drew; assumption) | (apply Sat.pick; assumption; (repeat (first | exact Pick.nil _ | exact Pick.tail _ | exact Out.here _ | apply Out.there | apply Pick.cons | apply Pick.drop))))
    clear hK K
    have hsz := hs6
    refine rg_more (L' := _) (Sat.pickOf hs6 (by (repeat (first | exact Pick.nil _ | exact Pick.tail _ | exact Out.here _ | apply Out.there | apply Pick.cons | apply Pick.drop)))) ?_
    (try simp only [Act.put, List.setIfInBounds_toArray, List.set_cons_zero, List.set_cons_succ])
    refine rg_one (i := 10) (by kernel_rfl) rfl (by with_unfolding_all rfl) (fun K hK => ?_)
    (((with_reducible apply st_buildSlice); assumption; rfl; (go_simp; rfl); (simp [Value.cells]); omega; intro b w1 hs1); have hs7 := hs1; clear hs1)
    refine rg_back (hK := hK) ?_ (fun hsk => ?_)
    · (first | assumption | (apply Sat.drew; assumption) | (apply Sat.pick; assumption; (repeat (first | exact Pick.nil _ | exact Pick.tail _ | exact Out.here _ | apply Out.there | apply Pick.cons | apply Pick.drop))))
    clear hK K
    have hsz := hs7
    refine rg_more (L' := _) (Sat.pickOf hs7 (by (repeat (first | exact Pick.nil _ | exact Pick.tail _ | exact Out.here _ | apply Out.there | apply Pick.cons | apply Pick.drop)))) ?_
    (try simp only [Act.put, List.setIfInBounds_toArray, List.set_cons_zero, List.set_cons_succ])
    refine rg_one (i := 11) (by kernel_rfl) rfl (by with_unfolding_all rfl) (fun K hK => ?_)
    go_simp
    (refine (join_spec [zt, zi, zk, zd] z Hz.out (by omega) (by omega) hs7 (RdBB.four (by (repeat (first | assumption | exact Rd.own | exact Rd.nil | apply Rd.cons))) (by (repeat (first | assumption | exact Rd.own | exact Rd.nil | apply Rd.cons))) (by (repeat (first | assumption | exact Rd.own | exact Rd.nil | apply Rd.cons))) (by (repeat (first | assumption | exact Rd.own | exact Rd.nil | apply Rd.cons))) rfl rfl rfl rfl)).mono ?_; rintro e' w8 ⟨A8, c8, rfl, hs8⟩)
    (try go_wp2_with fail)
    refine rg_back (hK := hK) ?_ (fun hsk => ?_)
    · (first | assumption | (apply Sat.drew; assumption) | (apply Sat.pick; assumption; (repeat (first | exact Pick.nil _ | exact Pick.tail _ | exact Out.here _ | apply Out.there | apply Pick.cons | apply Pick.drop))))
    clear hK K
    have hsz := hs8
    refine rg_more (L' := _) (Sat.pickOf hs8 (by (repeat (first | exact Pick.nil _ | exact Pick.tail _ | exact Out.here _ | apply Out.there | apply Pick.cons | apply Pick.drop)))) ?_
    (try simp only [Act.put, List.setIfInBounds_toArray, List.set_cons_zero, List.set_cons_succ])
    refine rg_take (i := 12) (v := ?_) rfl (by kernel_rfl) (by kernel_rfl) (by kernel_rfl) (fun _ _ _ h => h) (by with_unfolding_all rfl) (by assumption) ?_ ?_
    rotate_left
    · intro w hSw; (first | (go_simp; done) | (go_simp; with_reducible rfl) | (go_simp; rfl))
    (try simp only [Act.put, List.setIfInBounds_toArray, List.set_cons_zero, List.set_cons_succ])
    refine rg_take (i := 13) (v := ?_) rfl (by kernel_rfl) (by kernel_rfl) (by kernel_rfl) (fun _ _ _ h => h) (by with_unfolding_all rfl) (by assumption) ?_ ?_
    rotate_left
    · intro w hSw; (first | (go_simp; done) | (go_simp; with_reducible rfl) | (go_simp; rfl))
    (try simp only [Act.put, List.setIfInBounds_toArray, List.set_cons_zero, List.set_cons_succ])
    refine rg_done (by kernel_rfl) ?_
    go_wp2_with fail
    go_ret2
    exact RetT.mk hs8 (by (repeat (first | exact Pick.nil _ | exact Pick.tail _ | exact Out.here _ | apply Out.there | apply Pick.cons | apply Pick.drop))) rfl rfl rfl

theorem rdEntry_len {e : Int} {b r : List UInt8} {x : Ent} {g : Int} (h : rdEntry e b = (x, g, r)) : x.d.length ≤ b.length := by
  obtain ⟨⟨t, e1, r1⟩, x1⟩ : ∃ x, rdNumber e b = x := ⟨_, rfl⟩
  obtain ⟨⟨i, e2, r2⟩, x2⟩ : ∃ x, rdNumber e1 r1 = x := ⟨_, rfl⟩
  obtain ⟨⟨k, e3, r3⟩, x3⟩ : ∃ x, rdNumber e2 r2 = x := ⟨_, rfl⟩
  obtain ⟨⟨d, e4, r4⟩, x4⟩ : ∃ x, rdBytes e3 r3 = x := ⟨_, rfl⟩
  have l1 := (rdNumber_ok x1).2.2.1
  have l2 := (rdNumber_ok x2).2.2.1
  have l3 := (rdNumber_ok x3).2.2.1
  obtain ⟨l4, l5⟩ := rdBytes_len x4
  simp only [rdEntry, x1, x2, x3, x4, Prod.mk.injEq] at h
  rw [← h.1]; simp only; omega

/-- It has returned the entry x.1 (with bytes of its own) and the error x.2. -/
def RetE (w0 : World) (L : List HP) (x : Ent × Int) (e : Ending) (w' : World) : Prop :=
  ∃ A c, e = .returned (.tuple #[.agg #[.int .i64 x.1.t, .int .i64 x.1.i, .int .i64 x.1.k, .slice A x.1.d.length c], .int .i64 x.2]) ∧ Sat w0 w' (own 5 1 A c x.1.d.length (B8 x.1.d) :: L)

theorem rdBytes_ok {e : Int} {l y l2 : List UInt8} {e2 : Int} (h : rdBytes e l = (y, e2, l2)) : l2.length ≤ l.length ∧ y.length ≤ l.length := rdBytes_len h

/-- It has returned the entry x. -/
def RetRE (w0 : World) (L : List HP) (x : Ent) (e : Ending) (w' : World) : Prop :=
  ∃ A c, e = .returned (.agg #[.int .i64 x.t, .int .i64 x.i, .int .i64 x.k, .slice A x.d.length c]) ∧ Sat w0 w' (own 5 1 A c x.d.length (B8 x.d) :: L)

end Go.Proofs.Ytcpcdhlfdabbnaa
