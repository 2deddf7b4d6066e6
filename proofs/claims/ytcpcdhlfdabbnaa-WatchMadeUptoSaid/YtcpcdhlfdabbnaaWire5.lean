/-
  wire.Reader: its fault, New, slices.Clone, slices.Backward over bytes.
-/
import Derived.Test.YtcpcdhlfdabbnaaWire4
import Derived.Test.YtcpcdhlfdabbnaaSlOpsIn
namespace Go.Proofs.Ytcpcdhlfdabbnaa
open Go Go.RowKit Sl
attribute [local go_sem] Oper.semAt_some

theorem fok_spec {w0 w : World} {L L' : List HP} {p : Nat} {cur : Array Value} {T : TypeId} {e : Int} (hs : Sat w0 w L) (ho : Out (blk p (.cells cur T (0, 0))) L L') (h0 : cur[0]? = some (.int .i64 e)) :
    Calls Try.prog 90 #[.pointer (some ⟨p, 0, none⟩)] w fun r w' => r = .returned (.bool (e == 0)) ∧ w = w' := by
  have hc : Cl w0 L ⟨p, 0, none⟩ (.int .i64 e) := fun w hs => by
    have := hs.get ho
    simp [World.cell?, this, h0]
  go_enter Try.func90, Try.ntmps90
  go_wp2_with (first | ((with_reducible apply wl_unguard); rfl) | ((with_reducible apply wl_buildSlice); assumption; rfl; (go_simp; rfl); (simp [Value.cells]); omega; intro b w1 hs1) | ((with_reducible apply wl_append); go_must (assumption; rfl; rfl; (repeat (first | exact Out.here _ | apply Out.there)); (repeat (first | assumption | exact Rd.own | exact Rd.nil | apply Rd.cons)); (first | exact B8_one _ | exact I8_one _ | (simp [Value.oneCell'])); (first | omega | (simp only [maxLen]; omega)); omega; intro A1 c1 w1 hs1 hc1; (try ((refine hs1.own_elim ?_ ?_); omega; rintro g1 rfl)); try simp only [Nat.zero_add, List.nil_append] at hs1 hc1)) | ((with_reducible apply wl_store_own); assumption; rfl; (go_simp; rfl); (repeat (first | exact Out.here _ | apply Out.there)); rfl; rfl; omega; intro w1 hs1) | ((with_reducible apply wl_store1); assumption; rfl; (go_simp; rfl); (repeat (first | exact Out.here _ | apply Out.there)); rfl; rfl; simp; intro w1 hs1; (try simp only [List.setIfInBounds_toArray] at hs1); (try simp only [List.set_cons_succ] at hs1); (try simp only [List.set_cons_zero] at hs1)) | ((with_reducible apply wl_load); assumption; rfl; (repeat (first | assumption | exact Cl.blk rfl | apply Cl.cons))) | ((with_reducible apply wl_b2s); assumption; rfl; (repeat (first | assumption | exact Rd.own | exact Rd.nil | apply Rd.cons)); first | rfl | (simp [B8_app])))
  go_ret
  exact ⟨rfl, rfl⟩

theorem fset_spec {w0 w : World} {L L' : List HP} {p : Nat} {T : TypeId} {e x : Int} {v1 v2 : Value} (hs : Sat w0 w L) (ho : Out (blk p (.cells #[.int .i64 e, v1, v2] T (0, 0))) L L') :
    Calls Try.prog 91 #[.pointer (some ⟨p, 0, none⟩), .int .i64 x] w fun r w' => r = .returned (.tuple #[]) ∧ Sat w0 w' (blk p (.cells #[.int .i64 (if e = 0 then x else e), v1, v2] T (0, 0)) :: L') := by
  have hc : Cl w0 L ⟨p, 0, none⟩ (.int .i64 e) := fun w hs => by
    have := hs.get ho
    simp [World.cell?, this]
  by_cases h0 : e = 0
  · rw [if_pos h0]
    have he : (e == 0) = true := by simp [h0]
    have H0 : Hid (e = 0) := h0
    clear h0
    go_enter Try.func91, Try.ntmps91
    go_wp2_with (first | ((with_reducible apply wl_load); assumption; rfl; (repeat (first | assumption | exact Cl.blk rfl | apply Cl.cons))) | ((with_reducible apply wl_store1); assumption; rfl; (go_simp; rfl); exact ho; rfl; rfl; simp; intro w1 hs1; simp only [List.setIfInBounds_toArray, List.set_cons_zero] at hs1))
    go_end0
    exact ⟨rfl, hs1⟩
  · rw [if_neg h0]
    have he : (e == 0) = false := by simp [h0]
    clear h0
    go_enter Try.func91, Try.ntmps91
    go_wp2_with ((with_reducible apply wl_load); assumption; rfl; (repeat (first | assumption | exact Cl.blk rfl | apply Cl.cons)))
    go_end0
    exact ⟨rfl, hs.out ho⟩

/-- slices.Clone of bytes. -/
theorem clone_spec {w0 w : World} {L : List HP} {A : Option Addr} {c : Nat} (l : List UInt8) (hl : l.length ≤ 4294967296) (hs : Sat w0 w L) (hR : Rd w0 L A l.length 1 (B8 l)) :
    Calls Try.prog 87 #[.slice A l.length c] w (RetS w0 L l) := by
  have h1 := fun (w : World) => Lib.run_eql_slice_nil (P := Try.prog) w 44 5 A l.length c 0 0 Try.underlying44
  cases A with
  | none =>
    obtain rfl : l = [] := List.eq_nil_of_length_eq_zero ((hR w hs).nil rfl)
    have h1 := fun (w : World) => Lib.run_eql_slice_nil (P := Try.prog) w 44 5 none 0 c 0 0 Try.underlying44
    simp only [Option.isNone_none] at h1
    go_enter Try.func87, Try.ntmps87
    go_wp2_with (first | (first | ((with_reducible apply wl_unguard); rfl) | ((with_reducible apply wl_buildSlice); assumption; rfl; (go_simp; rfl); (simp [Value.cells]); omega; intro b w1 hs1) | ((with_reducible apply wl_append); go_must (assumption; rfl; rfl; (repeat (first | exact Out.here _ | apply Out.there)); (repeat (first | assumption | exact Rd.own | exact Rd.nil | apply Rd.cons)); (first | exact B8_one _ | exact I8_one _ | (simp [Value.oneCell'])); (first | omega | (simp only [maxLen]; omega)); omega; intro A1 c1 w1 hs1 hc1; (try ((refine hs1.own_elim ?_ ?_); omega; rintro g1 rfl)); try simp only [Nat.zero_add, List.nil_append] at hs1 hc1)) | ((with_reducible apply wl_store_own); assumption; rfl; (go_simp; rfl); (repeat (first | exact Out.here _ | apply Out.there)); rfl; rfl; omega; intro w1 hs1) | ((with_reducible apply wl_store1); assumption; rfl; (go_simp; rfl); (repeat (first | exact Out.here _ | apply Out.there)); rfl; rfl; simp; intro w1 hs1; (try simp only [List.setIfInBounds_toArray] at hs1); (try simp only [List.set_cons_succ] at hs1); (try simp only [List.set_cons_zero] at hs1)) | ((with_reducible apply wl_load); assumption; rfl; (repeat (first | assumption | exact Cl.blk rfl | apply Cl.cons))) | ((with_reducible apply wl_b2s); assumption; rfl; (repeat (first | assumption | exact Rd.own | exact Rd.nil | apply Rd.cons)); first | rfl | (simp [B8_app]))) | fail)
    go_ret
    exact RetS.mk (hs.own_nil _ _) (by (repeat (first | exact Pick.nil _ | exact Pick.tail _ | exact Out.here _ | apply Out.there | apply Pick.cons | apply Pick.drop))) rfl rfl
  | some a =>
    simp only [Option.isNone_some] at h1
    go_enter Try.func87, Try.ntmps87
    go_wp2_with (first | (first | ((with_reducible apply wl_unguard); rfl) | ((with_reducible apply wl_buildSlice); assumption; rfl; (go_simp; rfl); (simp [Value.cells]); omega; intro b w1 hs1) | ((with_reducible apply wl_append); go_must (assumption; rfl; rfl; (repeat (first | exact Out.here _ | apply Out.there)); (repeat (first | assumption | exact Rd.own | exact Rd.nil | apply Rd.cons)); (first | exact B8_one _ | exact I8_one _ | (simp [Value.oneCell'])); (first | omega | (simp only [maxLen]; omega)); omega; intro A1 c1 w1 hs1 hc1; (try ((refine hs1.own_elim ?_ ?_); omega; rintro g1 rfl)); try simp only [Nat.zero_add, List.nil_append] at hs1 hc1)) | ((with_reducible apply wl_store_own); assumption; rfl; (go_simp; rfl); (repeat (first | exact Out.here _ | apply Out.there)); rfl; rfl; omega; intro w1 hs1) | ((with_reducible apply wl_store1); assumption; rfl; (go_simp; rfl); (repeat (first | exact Out.here _ | apply Out.there)); rfl; rfl; simp; intro w1 hs1; (try simp only [List.setIfInBounds_toArray] at hs1); (try simp only [List.set_cons_succ] at hs1); (try simp only [List.set_cons_zero] at hs1)) | ((with_reducible apply wl_load); assumption; rfl; (repeat (first | assumption | exact Cl.blk rfl | apply Cl.cons))) | ((with_reducible apply wl_b2s); assumption; rfl; (repeat (first | assumption | exact Rd.own | exact Rd.nil | apply Rd.cons)); first | rfl | (simp [B8_app]))) | fail)
    go_ret
    exact RetS.mk hs1 (by (repeat (first | exact Pick.nil _ | exact Pick.tail _ | exact Out.here _ | apply Out.there | apply Pick.cons | apply Pick.drop))) rfl rfl

set_option maxHeartbeats 400000 in
theorem backward_spec {w0 w : World} {L : List HP} {A : Option Addr} {n c : Nat} (hs : Sat w0 w L) :
    Calls Try.prog 92 #[.slice A n c] w fun e w' => ∃ b, e = .returned (.func (.func 96) #[] #[.pointer (some ⟨b, 0, none⟩)]) ∧ Sat w0 w' (blk b (.cells #[.slice A n c] 44 (0, 0)) :: L) := by
  go_enter Try.func92, Try.ntmps92
  go_wp2_with ((with_reducible apply wl_box); assumption; (go_simp; rfl); intro b w1 hs1; simp only [Value.cells] at hs1)
  go_ret
  exact ⟨_, rfl, hs1⟩

def back (l : List UInt8) : List (Array Value) := (List.range l.length).map fun k => #[.int .i64 ((l.length - 1 - k : Nat) : Int), b8 (l.getD (l.length - 1 - k) 0)]

theorem back_length (l : List UInt8) : (back l).length = l.length := by simp [back]
theorem back_at (l : List UInt8) (k j : Nat) (c : UInt8) (h : l.length = k + 1 + j) (hc : l[j]? = some c) : (back l)[k]? = some #[.int .i64 (j : Int), b8 c] := by
  have e : l.length - 1 - k = j := by omega
  simp [back, List.getElem?_range (show k < l.length by omega), e, hc]

set_option maxHeartbeats 1000000 in
theorem backward_seq {w0 : World} {L : List HP} {A : Option Addr} {b c : Nat} (l : List UInt8) (hl : l.length ≤ 4294967296) (hR : Rd w0 L A l.length 1 (B8 l)) :
    Seq Try.prog 96 #[.pointer (some ⟨b, 0, none⟩)] w0 L (blk b (.cells #[.slice A l.length c] 44 (0, 0))) (back l) := by
  intro lp Inv Stop M w hY hE hs
  have hR' := hR.ent hE
  have hs1 : Sat w0 w (blk b (.cells #[.slice A l.length c] 44 (0, 0)) :: Inv 0 :: M) := hs.swap
  refine callsIn_of_wp Try.func96 rfl trivial ?_ rfl
  simp only [Try.ntmps96, List.size_toArray, List.length_cons, List.length_nil, Nat.reduceAdd, Nat.reduceSub, Array.replicate_succ, Array.replicate_zero, List.push_toArray, List.append_toArray, List.nil_append, List.cons_append]
  gi_wp2_with ((with_reducible apply wi_load); assumption; rfl; (repeat (first | assumption | exact Cl.blk rfl | apply Cl.cons)))
  gi_loopw [3] (fun i wr => ∃ (k : Nat) (j : Int), k ≤ l.length ∧ j = (l.length : Int) - 1 - (k : Int) ∧ i = .int .i64 j ∧ Sat w0 wr (blk b (.cells #[.slice A l.length c] 44 (0, 0)) :: Inv k :: M)) (fun i _ => (intOf i + 1).toNat)
  case atStart => exact ⟨0, _, Nat.zero_le _, rfl, by simp, hs1⟩
  case round =>
    obtain ⟨k, j, hk, hj, rfl, hs2⟩ := hrel
    clear hs hs1
    by_cases hlt : k < l.length
    · obtain ⟨j, rfl⟩ := Int.eq_ofNat_of_zero_le (show 0 ≤ j by omega)
      have hkj : l.length = k + 1 + j := by omega
      obtain ⟨ab, off, rfl⟩ := hR'.some_of hs2.tail.tail (by omega)
      obtain ⟨u, hu⟩ : ∃ u, l[j]? = some u := ⟨l[j]'(by omega), List.getElem?_eq_getElem (by omega)⟩
      have hc := ((hR'.elt (k := j) (u := b8 u) (by simp [B8, hu])).cons (p := Inv k)).cons (p := blk b (.cells #[.slice (some ⟨ab, off, none⟩) l.length c] 44 (0, 0)))
      have hy := hY k (blk b (.cells #[.slice (some ⟨ab, off, none⟩) l.length c] 44 (0, 0)) :: M) wr _ (back_at l k j u hkj hu) hE.cons hs2.swap
      have hjl : j < l.length := by omega
      have Hkj : Hid (l.length = k + 1 + j) := hkj
      clear hj hkj hu
      gi_wp2_with (first | ((with_reducible apply wi_load); assumption; rfl; (repeat (first | assumption | exact Cl.blk rfl | apply Cl.cons))) | ((with_reducible apply wi_yield (hy := hy)); rfl; rfl; rotate_left; (rintro e w' (⟨rfl, _⟩ | ⟨rfl, _⟩) <;> exact ⟨_, rfl⟩); rintro v w1 (⟨hv, hs3⟩ | ⟨hv, hs3⟩) <;> cases hv))
      · go_roundw
        case rel => exact ⟨k + 1, (j : Int) - 1, by omega, by have := Hkj.out; omega, by go_num, hs3.swap⟩
        case measure => simp [intOf]
      · refine bodyPost_ret (results_none rfl _ _ _) rfl ?_
        exact ⟨⟨_, rfl⟩, .inr ⟨k, by rw [back_length]; exact hlt, hs3.pick (.cons (.here _) (.drop (.tail _)))⟩⟩
    · obtain rfl : k = l.length := by omega
      gi_wp2
      go_end0
      exact ⟨⟨_, rfl⟩, .inl (by rw [back_length]; exact hs2.tail)⟩

theorem backward_seq' {w0 : World} {L : List HP} {A : Option Addr} {b c n : Nat} (l : List UInt8) (hn : n = l.length) (hl : l.length ≤ 4294967296) (hR : Rd w0 L A n 1 (B8 l)) :
    Seq Try.prog 96 #[.pointer (some ⟨b, 0, none⟩)] w0 L (blk b (.cells #[.slice A n c] 44 (0, 0))) (back l) := by
  subst hn; exact backward_seq l hl hR

theorem back_inv (l : List UInt8) (k : Nat) (x : Array Value) (h : (back l)[k]? = some x) : ∃ j c, l.length = k + 1 + j ∧ l[j]? = some c ∧ x = #[.int .i64 (j : Int), b8 c] := by
  have hk : k < l.length := by
    have := (List.getElem?_eq_some_iff.1 h).1
    rwa [back_length] at this
  obtain ⟨j, hj⟩ : ∃ j, l.length = k + 1 + j := ⟨l.length - 1 - k, by omega⟩
  have hc : l[j]? = some (l[j]'(by omega)) := List.getElem?_eq_getElem (by omega)
  refine ⟨j, _, hj, hc, ?_⟩
  rw [back_at l k j _ hj hc] at h
  exact (Option.some.inj h).symm
#print axioms backward_seq
end Go.Proofs.Ytcpcdhlfdabbnaa
