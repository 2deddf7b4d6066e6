/-
  wire.Reader: New, Left, Err, End, Bytes.
-/
import Derived.Test.YtcpcdhlfdabbnaaWire6
namespace Go.Proofs.Ytcpcdhlfdabbnaa
open Go Go.RowKit Sl Go.Shelf
attribute [local go_sem] Oper.semAt_some

theorem rdNumber_ok {e : Int} {l l2 : List UInt8} {v e2 : Int} (h : rdNumber e l = (v, e2, l2)) : 0 ≤ v ∧ (e2 ≠ 0 → v = 0) ∧ l2.length ≤ l.length ∧ v < 281474976710656 := by
  unfold rdNumber at h
  split at h
  · cases h; simp
  · split at h
    · cases h; simp
    · rename_i c r
      split at h
      · cases h; simp
      · split at h
        · cases h; simp
        · split at h
          · cases h; simp
          · rename_i h6 _ _
            cases h
            have h1 := val_lt (r.take c.toNat)
            have h2 : 256 ^ (r.take c.toNat).length ≤ 256 ^ 6 := Nat.pow_le_pow_right (by omega) (by simp; omega)
            refine ⟨by omega, by simp, by simp; omega, by omega⟩

/-- What Bytes does. -/
def rdBytes (e : Int) (l : List UInt8) : List UInt8 × Int × List UInt8 :=
  let x := rdNumber e l
  if x.2.1 ≠ 0 then ([], x.2.1, l)
  else if 1048576 < x.1 then ([], 21, l)
  else if (x.2.2.length : Int) < x.1 then ([], 20, l)
  else (x.2.2.take x.1.toNat, 0, x.2.2.drop x.1.toNat)

/-- What End answers. -/
def rdEnd (e : Int) (l : List UInt8) : Int := if e ≠ 0 then e else if 0 < l.length then 21 else 0

/-- A new reader. -/
def RetNew (w0 : World) (L : List HP) (l : List UInt8) (r : Ending) (w' : World) : Prop := ∃ p buf, r = .returned (.pointer (some ⟨p, 0, none⟩)) ∧ Sat w0 w' (Rd1 buf p 0 l :: buf :: L)

set_option maxHeartbeats 400000 in
theorem new_spec {w0 w : World} {L : List HP} {A : Option Addr} {c : Nat} (l : List UInt8) (hl : l.length ≤ 4294967296) (hs : Sat w0 w L) (hR : Rd w0 L A l.length 1 (B8 l)) :
    Calls Try.prog 72 #[.slice A l.length c] w (RetNew w0 L l) := by
  go_enter Try.func72, Try.ntmps72
  go_wp2_with (first | (go_at_call 87; refine (clone_spec l hl hs hR).mono ?_; rintro e' w2 ⟨A2, c2, rfl, hs2⟩) | ((with_reducible apply wl_box); assumption; (go_simp; rfl); intro b w1 hs1; simp only [Value.cells] at hs1) | (first | ((with_reducible apply wl_unguard); rfl) | ((with_reducible apply wl_buildSlice); assumption; rfl; (go_simp; rfl); (simp [Value.cells]); omega; intro b w1 hs1) | ((with_reducible apply wl_append); go_must (assumption; rfl; rfl; (repeat (first | exact Out.here _ | apply Out.there)); (repeat (first | assumption | exact Rd.own | exact Rd.nil | apply Rd.cons)); (first | exact B8_one _ | exact I8_one _ | (simp [Value.oneCell'])); (first | omega | (simp only [maxLen]; omega)); omega; intro A1 c1 w1 hs1 hc1; (try ((refine hs1.own_elim ?_ ?_); omega; rintro g1 rfl)); try simp only [Nat.zero_add, List.nil_append] at hs1 hc1)) | ((with_reducible apply wl_store_own); assumption; rfl; (go_simp; rfl); (repeat (first | exact Out.here _ | apply Out.there)); rfl; rfl; omega; intro w1 hs1) | ((with_reducible apply wl_store1); assumption; rfl; (go_simp; rfl); (repeat (first | exact Out.here _ | apply Out.there)); rfl; rfl; simp; intro w1 hs1; (try simp only [List.setIfInBounds_toArray] at hs1); (try simp only [List.set_cons_succ] at hs1); (try simp only [List.set_cons_zero] at hs1)) | ((with_reducible apply wl_load); assumption; rfl; (repeat (first | assumption | exact Cl.blk rfl | apply Cl.cons))) | ((with_reducible apply wl_b2s); assumption; rfl; (repeat (first | assumption | exact Rd.own | exact Rd.nil | apply Rd.cons)); first | rfl | (simp [B8_app]))) | fail)
  go_ret
  exact ⟨_, _, rfl, Rd1.made rfl (hs2.own_cap) (fun w0 L => Rd.own) hs1⟩

theorem win_take {A A' : Option Addr} {n k : Nat} {l : List UInt8} {w0 : World} {L : List HP} (hw : Win A A' n 0 k) (hR : Rd w0 L A n 1 (B8 l)) : Rd w0 L A' k 1 (B8 (l.take k)) := by
  have := hw _ _ _ hR
  simpa [B8] using this

theorem win_drop {A A' : Option Addr} {n k : Nat} {l : List UInt8} {w0 : World} {L : List HP} (hn : n = l.length) (hw : Win A A' n k n) (hR : Rd w0 L A n 1 (B8 l)) : Rd w0 L A' (n - k) 1 (B8 (l.drop k)) := by
  have := hw _ _ _ hR
  subst hn
  simpa [B8, List.take_of_length_le] using this

theorem clone_to {w0 w : World} {L : List HP} {A : Option Addr} {c : Nat} (n : Nat) (l : List UInt8) (hn : Hid (l.length = n)) (hl : n ≤ 4294967296) (hs : Sat w0 w L) (hR : Rd w0 L A n 1 (B8 l)) :
    Calls Try.prog 87 #[.slice A n c] w (fun r w' => ∃ A' c', r = .returned (.slice A' n c') ∧ Sat w0 w' (own 5 1 A' c' n (B8 l) :: L)) := by
  have hn := hn.out
  subst hn
  exact clone_spec l hl hs hR

end Go.Proofs.Ytcpcdhlfdabbnaa
