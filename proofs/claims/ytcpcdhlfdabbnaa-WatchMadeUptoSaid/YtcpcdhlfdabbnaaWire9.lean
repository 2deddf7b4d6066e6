/-
  hustingsref03.Reader: New, Bytes, End.
-/
import Derived.Test.YtcpcdhlfdabbnaaWire8
namespace Go.Proofs.Ytcpcdhlfdabbnaa
open Go Go.RowKit Sl Go.Shelf

/-- A reader of the document's, at q: the first error, the bytes that are left. -/
def RR (buf : HP) (q : Nat) (e : Int) (l : List UInt8) : HP := fun h => ∃ x : Option Addr × Nat × List UInt8 × Nat, (x.2.2.1.length ≤ 4294967296 ∧ x.2.2.1.length ≤ x.2.1 ∧ x.2.2.2 ≤ x.2.2.1.length ∧ x.2.2.1.drop x.2.2.2 = l ∧ ∀ w0 L, Rd w0 (buf :: L) x.1 x.2.2.1.length 1 (B8 x.2.2.1)) ∧ RB q x.1 x.2.2.1.length x.2.1 x.2.2.2 e h

theorem RR.opened {w0 w : World} {L : List HP} {buf : HP} {q : Nat} {e : Int} {l : List UInt8} (h : Sat w0 w (RR buf q e l :: L)) :
    ∃ (A : Option Addr) (c : Nat) (B : List UInt8) (at_ : Nat), B.length ≤ 4294967296 ∧ B.length ≤ c ∧ at_ ≤ B.length ∧ B.drop at_ = l ∧ (∀ w0 L, Rd w0 (buf :: L) A B.length 1 (B8 B)) ∧ Sat w0 w (RB q A B.length c at_ e :: L) := by
  obtain ⟨⟨A, c, B, at_⟩, h1⟩ := h.ex
  obtain ⟨⟨h2, h3, h4, h5, h6⟩, h7⟩ := h1.pure
  exact ⟨A, c, B, at_, h2, h3, h4, h5, h6, h7⟩

theorem RR.made {w0 w : World} {L : List HP} {buf : HP} {q : Nat} {e : Int} {l : List UInt8} {A : Option Addr} {c : Nat} {B : List UInt8} {at_ : Nat} (h1 : B.length ≤ 4294967296) (h2 : B.length ≤ c) (h3 : at_ ≤ B.length) (h4 : B.drop at_ = l) (h5 : ∀ w0 L, Rd w0 (buf :: L) A B.length 1 (B8 B))
    (h : Sat w0 w (RB q A B.length c at_ e :: L)) : Sat w0 w (RR buf q e l :: L) := h.to_head fun _ hb => ⟨(A, c, B, at_), ⟨h1, h2, h3, h4, h5⟩, hb⟩

theorem refNumberR {w0 w : World} {L : List HP} {buf : HP} {q : Nat} (e : Int) (l : List UInt8) (hs : Sat w0 w (RR buf q e l :: buf :: L)) :
    Calls Try.prog 78 #[.pointer (some ⟨q, 0, none⟩)] w fun r w' => r = .returned (.int .i64 (rdNumber e l).1) ∧ Sat w0 w' (RR buf q (rdNumber e l).2.1 (rdNumber e l).2.2 :: buf :: L) := by
  obtain ⟨A, c, B, at_, h1, h2, h3, rfl, h5, h6⟩ := RR.opened hs
  refine (refNumber_read e B h1 h3 h5 h6).mono ?_
  rintro r w' ⟨at2, h7, h8, rfl, h9⟩
  exact ⟨rfl, RR.made h1 h2 h7 h8 h5 h9⟩

theorem refLeftR {w0 w : World} {L : List HP} {buf : HP} {q : Nat} {e : Int} {l : List UInt8} (hs : Sat w0 w (RR buf q e l :: L)) :
    Calls Try.prog 94 #[.pointer (some ⟨q, 0, none⟩)] w fun r w' => r = .returned (.int .i64 l.length) ∧ Sat w0 w' (RR buf q e l :: L) := by
  obtain ⟨A, c, B, at_, h1, h2, h3, rfl, h5, h6⟩ := RR.opened hs
  refine (refLeft_spec h1 h3 h6 (Cl.blk rfl) (Cl.blk rfl)).mono ?_
  rintro r w' ⟨rfl, h9⟩
  exact ⟨by rw [List.length_drop], RR.made h1 h2 h3 rfl h5 h9⟩

/-- A new reader of the document's. -/
def RetNewR (w0 : World) (L : List HP) (l : List UInt8) (r : Ending) (w' : World) : Prop := ∃ p buf, r = .returned (.pointer (some ⟨p, 0, none⟩)) ∧ Sat w0 w' (RR buf p 0 l :: buf :: L)

set_option maxHeartbeats 400000 in
theorem refNew_spec {w0 w : World} {L : List HP} {A : Option Addr} {c : Nat} (l : List UInt8) (hl : l.length ≤ 4294967296) (hs : Sat w0 w L) (hR : Rd w0 L A l.length 1 (B8 l)) :
    Calls Try.prog 77 #[.slice A l.length c] w (RetNewR w0 L l) := by
  go_enter Try.func77, Try.ntmps77
  go_wp2_with (first | ((with_reducible apply wl_box); assumption; (go_simp; rfl); intro b w1 hs1; simp only [Value.cells] at hs1) | (first | ((with_reducible apply wl_unguard); rfl) | ((with_reducible apply wl_buildSlice); assumption; rfl; (go_simp; rfl); (simp [Value.cells]); omega; intro b w1 hs1) | ((with_reducible apply wl_append); go_must (assumption; rfl; rfl; (repeat (first | exact Out.here _ | apply Out.there)); (repeat (first | assumption | exact Rd.own | exact Rd.nil | apply Rd.cons)); (first | exact B8_one _ | exact I8_one _ | (simp [Value.oneCell'])); (first | omega | (simp only [maxLen]; omega)); omega; intro A1 c1 w1 hs1 hc1; (try ((refine hs1.own_elim ?_ ?_); omega; rintro g1 rfl)); try simp only [Nat.zero_add, List.nil_append] at hs1 hc1)) | ((with_reducible apply wl_store_own); assumption; rfl; (go_simp; rfl); (repeat (first | exact Out.here _ | apply Out.there)); rfl; rfl; omega; intro w1 hs1) | ((with_reducible apply wl_store1); assumption; rfl; (go_simp; rfl); (repeat (first | exact Out.here _ | apply Out.there)); rfl; rfl; simp; intro w1 hs1; (try simp only [List.setIfInBounds_toArray] at hs1); (try simp only [List.set_cons_succ] at hs1); (try simp only [List.set_cons_zero] at hs1)) | ((with_reducible apply wl_load); assumption; rfl; (repeat (first | assumption | exact Cl.blk rfl | apply Cl.cons))) | ((with_reducible apply wl_b2s); assumption; rfl; (repeat (first | assumption | exact Rd.own | exact Rd.nil | apply Rd.cons)); first | rfl | (simp [B8_app]))) | fail)
  go_ret
  exact ⟨_, _, rfl, RR.made hl hc1 (Nat.zero_le _) rfl (fun w0 L => Rd.own) hs1⟩

theorem refEnd_spec {w0 w : World} {L : List HP} {buf : HP} {q : Nat} {e : Int} {l : List UInt8} (hs : Sat w0 w (RR buf q e l :: L)) :
    Calls Try.prog 79 #[.pointer (some ⟨q, 0, none⟩)] w fun r w' => r = .returned (.int .i64 (rdEnd e l)) ∧ Sat w0 w' (RR buf q e l :: L) := by
  obtain ⟨A, c, B, at_, h1, h2, h3, h4, h5, h6⟩ := RR.opened hs
  have hll : (l.length : Int) ≤ 4294967296 := by rw [← h4, List.length_drop]; omega
  unfold rdEnd
  have h6' : Sat w0 w (blk q (.cells #[.slice A B.length c, .int .i64 at_, .int .i64 e] 132 (0, 0)) :: L) := h6
  by_cases he : e ≠ 0
  · have h0 : (e == 0) = false := by simp [he]
    rw [if_pos he]
    clear h4
    go_enter Try.func79, Try.ntmps79
    go_wp2_with (first | (go_at_call 94; refine (refLeftR hs).mono ?_; rintro e' w' ⟨rfl, hs2⟩) | (first | ((with_reducible apply wl_unguard); rfl) | ((with_reducible apply wl_buildSlice); assumption; rfl; (go_simp; rfl); (simp [Value.cells]); omega; intro b w1 hs1) | ((with_reducible apply wl_append); go_must (assumption; rfl; rfl; (repeat (first | exact Out.here _ | apply Out.there)); (repeat (first | assumption | exact Rd.own | exact Rd.nil | apply Rd.cons)); (first | exact B8_one _ | exact I8_one _ | (simp [Value.oneCell'])); (first | omega | (simp only [maxLen]; omega)); omega; intro A1 c1 w1 hs1 hc1; (try ((refine hs1.own_elim ?_ ?_); omega; rintro g1 rfl)); try simp only [Nat.zero_add, List.nil_append] at hs1 hc1)) | ((with_reducible apply wl_store_own); assumption; rfl; (go_simp; rfl); (repeat (first | exact Out.here _ | apply Out.there)); rfl; rfl; omega; intro w1 hs1) | ((with_reducible apply wl_store1); assumption; rfl; (go_simp; rfl); (repeat (first | exact Out.here _ | apply Out.there)); rfl; rfl; simp; intro w1 hs1; (try simp only [List.setIfInBounds_toArray] at hs1); (try simp only [List.set_cons_succ] at hs1); (try simp only [List.set_cons_zero] at hs1)) | ((with_reducible apply wl_load); assumption; rfl; (repeat (first | assumption | exact Cl.blk rfl | apply Cl.cons))) | ((with_reducible apply wl_b2s); assumption; rfl; (repeat (first | assumption | exact Rd.own | exact Rd.nil | apply Rd.cons)); first | rfl | (simp [B8_app]))) | fail)
    go_ret
    exact ⟨rfl, hs⟩
  · obtain rfl : e = 0 := by omega
    rw [if_neg he]
    have H4 : Hid (B.drop at_ = l) := h4
    clear h4 he
    by_cases hl : 0 < l.length
    all_goals
      first | rw [if_pos hl] | rw [if_neg hl]
      go_enter Try.func79, Try.ntmps79
      go_wp2_with (first | (go_at_call 94; refine (refLeftR hs).mono ?_; rintro e' w' ⟨rfl, hs2⟩; obtain ⟨A, c, B, at_, h1, h2, h3, h4, h5, h7⟩ := RR.opened hs2; clear h4; have h8 : Sat w0 w' (blk q (.cells #[.slice A B.length c, .int .i64 at_, .int .i64 0] 132 (0, 0)) :: L) := h7) | (first | ((with_reducible apply wl_unguard); rfl) | ((with_reducible apply wl_buildSlice); assumption; rfl; (go_simp; rfl); (simp [Value.cells]); omega; intro b w1 hs1) | ((with_reducible apply wl_append); go_must (assumption; rfl; rfl; (repeat (first | exact Out.here _ | apply Out.there)); (repeat (first | assumption | exact Rd.own | exact Rd.nil | apply Rd.cons)); (first | exact B8_one _ | exact I8_one _ | (simp [Value.oneCell'])); (first | omega | (simp only [maxLen]; omega)); omega; intro A1 c1 w1 hs1 hc1; (try ((refine hs1.own_elim ?_ ?_); omega; rintro g1 rfl)); try simp only [Nat.zero_add, List.nil_append] at hs1 hc1)) | ((with_reducible apply wl_store_own); assumption; rfl; (go_simp; rfl); (repeat (first | exact Out.here _ | apply Out.there)); rfl; rfl; omega; intro w1 hs1) | ((with_reducible apply wl_store1); assumption; rfl; (go_simp; rfl); (repeat (first | exact Out.here _ | apply Out.there)); rfl; rfl; simp; intro w1 hs1; (try simp only [List.setIfInBounds_toArray] at hs1); (try simp only [List.set_cons_succ] at hs1); (try simp only [List.set_cons_zero] at hs1)) | ((with_reducible apply wl_load); assumption; rfl; (repeat (first | assumption | exact Cl.blk rfl | apply Cl.cons))) | ((with_reducible apply wl_b2s); assumption; rfl; (repeat (first | assumption | exact Rd.own | exact Rd.nil | apply Rd.cons)); first | rfl | (simp [B8_app]))) | fail)
      go_ret
      exact ⟨rfl, hs2⟩

end Go.Proofs.Ytcpcdhlfdabbnaa
