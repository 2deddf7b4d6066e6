/-
  Messages: what the rows share: num, knows.
-/
import Derived.Test.YtcedbmcnjckajaaMsg7
import Derived.Test.YtcedbmcnjckajaaMsg8
namespace Go.Proofs.Ytcedbmcnjckajaa
open Go Go.RowKit Sl Go.Shelf
set_option maxHeartbeats 20000000
set_option maxRecDepth 8000

theorem num4_spec {w : World} (e : Int) : Calls Try.prog 12 #[.int .i64 e] w fun r w' => r = .returned (.int .i64 e) ∧ w = w' := by
  go_enter Try.func12, Try.ntmps12
  go_wp2_with (first | ((with_reducible apply wl_unguard); rfl) | ((with_reducible apply wl_buildSlice); assumption; rfl; (go_simp; rfl); (simp [Value.cells]); omega; intro b w1 hs1) | ((with_reducible apply wl_append); go_must (assumption; rfl; rfl; (repeat (first | exact Out.here _ | apply Out.there)); (repeat (first | assumption | exact Rd.own | exact Rd.nil | apply Rd.cons)); (first | exact B8_one _ | exact I8_one _ | (simp [Value.oneCell'])); (first | omega | (simp only [maxLen]; omega)); omega; intro A1 c1 w1 hs1 hc1; (try ((refine hs1.own_elim ?_ ?_); omega; rintro g1 rfl)); try simp only [Nat.zero_add, List.nil_append] at hs1 hc1)) | ((with_reducible apply wl_store_own); assumption; rfl; (go_simp; rfl); (repeat (first | exact Out.here _ | apply Out.there)); rfl; rfl; omega; intro w1 hs1) | ((with_reducible apply wl_store1); assumption; rfl; (go_simp; rfl); (repeat (first | exact Out.here _ | apply Out.there)); rfl; rfl; simp; intro w1 hs1; (try simp only [aP] at hs1); (try simp only [aS] at hs1); (try simp only [aZ] at hs1)) | ((with_reducible apply wl_load); assumption; rfl; (repeat (first | assumption | exact Cl.blk rfl | apply Cl.cons))) | ((with_reducible apply wl_b2s); assumption; rfl; (repeat (first | assumption | exact Rd.own | exact Rd.nil | apply Rd.cons)); first | rfl | (simp [B8_app])))
  go_ret
  exact ⟨rfl, rfl⟩

theorem vote_bytes : putMsg ⟨2, 1, 2, 3, 0, 0, 0, 0, true, [], [], []⟩ = ([1, 2, 1, 1, 1, 2, 1, 3, 0, 0, 0, 0, 1, 1], 0) := by decide +kernel

theorem slV_nil {w0 : World} {L : List HP} : SlV EntV 4 (Rd w0 L) [.slice none 0 0] [] := ⟨none, 0, [], rfl, Rd.nil, rfl, fun i x h => by simp at h⟩

theorem knowsPut {w0 w : World} {L : List HP} (hs : Sat w0 w L) : Calls Try.prog 10 #[.agg #[.int .i64 2, .int .i64 1, .int .i64 2, .int .i64 3, .int .i64 0, .int .i64 0, .int .i64 0, .int .i64 0, .bool true, .slice none 0 0, .slice none 0 0, .slice none 0 0]] w (RetT w0 L ([1, 2, 1, 1, 1, 2, 1, 3, 0, 0, 0, 0, 1, 1], 0)) := by
  rw [← vote_bytes]
  exact put_spec (A := none) (B := none) (C := none) (ca := 0) (cb := 0) (cc := 0) 2 1 2 3 0 0 0 0 true [] [] [] (by simp) (by simp) (by simp) (by simp) hs slV_nil Rd.nil Rd.nil


theorem knows4_spec {w0 w : World} {L : List HP} (hs : Sat w0 w L) : Calls Try.prog 14 #[] w (RetB w0 L true) := by
  go_enter Try.func14, Try.ntmps14
  refine wk_seq (fun K0 hK0 => ?_)
  refine wk_reg ?_
  refine pl_take (v := .bool false) rfl ?_ ?_
  · (go_simp; first | done | with_reducible rfl | rfl | omega | assumption | (simp; omega))
  (try simp only [Act.put, aP, aZ])
  refine pl_done ?_
  refine hK0.out _ _ ?_
  (try clear hK0 K0)
  refine wk_seq (fun K1 hK1 => ?_)
  refine wk_reg ?_
  refine pl_take (v := ?_) rfl ?_ ?_
  rotate_left
  · (go_simp; first | done | with_reducible rfl | rfl | omega | assumption | (simp; omega))
  (try simp only [Act.put, aP, aZ, aS])
  refine pl_eff rfl (fun Kp hKp => ?_)
  go_simp
  (refine (knowsPut (by assumption)).mono ?_; rintro e5 w5 ⟨A5, c5, rfl, hs5⟩; simp only [List.length_cons, List.length_nil, Nat.zero_add, Nat.reduceAdd] at hs5)
  (try go_wp2_with fail)
  refine hKp.out _ _ ?_
  clear hKp Kp
  (try simp only [Act.put, aP, aZ, aS])
  iterate 5 (refine pl_take (v := ?_) rfl ?_ ?_; rotate_left; (· (go_simp; first | done | with_reducible rfl | rfl | omega | assumption | (simp; omega))); (try simp only [Act.put, aP, aZ, aS]))
  refine pl_done ?_
  refine hK1.out _ _ ?_
  (try clear hK1 K1)
  refine wk_seq (fun K2 hK2 => ?_)
  refine wk_reg ?_
  refine pl_take (v := ?_) rfl ?_ ?_
  rotate_left
  · (go_simp; first | done | with_reducible rfl | rfl | omega | assumption | (simp; omega))
  (try simp only [Act.put, aP, aZ, aS])
  refine pl_eff rfl (fun Kp hKp => ?_)
  go_simp
  ((refine (num4_spec _).mono ?_); rintro e9 w9 ⟨rfl, rfl⟩)
  (try go_wp2_with fail)
  refine hKp.out _ _ ?_
  clear hKp Kp
  (try simp only [Act.put, aP, aZ, aS])
  iterate 2 (refine pl_take (v := .bool true) rfl ?_ ?_; (· (go_simp; first | done | with_reducible rfl | rfl | omega | assumption | (simp; omega))); (try simp only [Act.put, aP, aZ, aS]))
  iterate 2 (refine pl_take (v := ?_) (by kernel_rfl) ?_ ?_; rotate_left; (· (first | (first | ((with_reducible apply yl_b2s); assumption; rfl; (repeat (first | with_reducible assumption | with_reducible exact Rd.own | with_reducible exact Rd.nil | with_reducible apply Rd.cons)); rfl) | (go_simp; first | done | with_reducible rfl | rfl | omega | assumption | (simp; omega))) | (go_simp; first | done | with_reducible rfl | rfl | omega | assumption | (simp; omega)))); (try simp only [Act.put, aP, aZ, aS]))
  refine pl_take (v := .bool true) (by kernel_rfl) ?_ ?_
  · (first | (go_simp; done) | (go_simp; rfl) | (go_simp; decide))
  (try simp only [Act.put, aP, aZ, aS])
  refine pl_take (v := .bool true) rfl ?_ ?_
  · (go_simp; first | done | with_reducible rfl | rfl | omega | assumption | (simp; omega))
  (try simp only [Act.put, aP, aZ, aS])
  refine pl_take (v := .bool true) rfl ?_ ?_
  · (go_simp; first | done | with_reducible rfl | rfl | omega | assumption | (simp; omega))
  (try simp only [Act.put, aP, aZ])
  refine pl_done ?_
  refine hK2.out _ _ ?_
  (try clear hK2 K2)
  refine wp_ret ?_
  go_ret
  exact ⟨rfl, (by assumption : Sat w0 _ _).pick (by (repeat (first | exact Pick.nil _ | exact Pick.tail _ | exact Out.here _ | apply Out.there | apply Pick.cons | apply Pick.drop)))⟩

theorem ents_slV' {w0 : World} {L : List HP} {A : Option Addr} {c : Nat} {es : List Ent} (ys : List (Ent × Option Addr × Nat)) (hy : ys.map (·.1) = es) (h64 : ∀ x ∈ es, In64 x.t ∧ In64 x.i ∧ In64 x.k) :
    SlV EntV 4 (Rd w0 (own 41 4 A c es.length (entsCells ys) :: DV (entsData ys) :: L)) [.slice A es.length c] es := by
  subst hy
  rw [List.length_map]
  refine ents_slV ys (fun y hm => h64 y.1 (List.mem_map_of_mem hm)) Rd.own fun y hm => ?_
  exact (DV.rd (List.mem_map.2 ⟨y, hm, rfl⟩)).cons

theorem ents_in {w0 : World} {L : List HP} {A : Option Addr} {c : Nat} {es : List Ent} (h : SlV EntV 4 (Rd w0 L) [.slice A es.length c] es) : ∀ x ∈ es, In64 x.t ∧ In64 x.i ∧ In64 x.k := by
  obtain ⟨_, _, vs, _, _, _, hel⟩ := h
  intro x hx
  obtain ⟨k, hk⟩ := List.mem_iff_getElem?.1 hx
  exact (hel k x hk).2

end Go.Proofs.Ytcedbmcnjckajaa
