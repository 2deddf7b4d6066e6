/-
  What the laws on two logs know.
-/
import Derived.Test.YtcpcdhlfdabbnaaW8
import Derived.Test.YtcpcdhlfdabbnaaW7
namespace Go.Proofs.Ytcpcdhlfdabbnaa
open Go Go.RowKit Sl Go.Shelf
set_option maxHeartbeats 20000000
set_option maxRecDepth 8000

theorem entry20_spec {w0 w : World} {L : List HP} (t i : Int) (ht : IntKind.u8.wrap t = t) (hs : Sat w0 w L) :
    Calls Try.prog 38 #[.int .i64 t, .int .i64 i] w (fun e w' => ∃ b, e = .returned (.agg #[.int .i64 t, .int .i64 i, .int .i64 2, .slice (some ⟨b, 0, none⟩) 1 1]) ∧ Sat w0 w' (own 5 1 (some ⟨b, 0, none⟩) 1 1 [.int .u8 t] :: L)) := by
  go_enter Try.func38, Try.ntmps38
  refine wk_seq (fun K0 hK0 => ?_)
  refine wk_reg ?_
  refine pl_eff rfl (fun Kp hKp => ?_)
  ((with_reducible apply st_alloc); assumption; intro b4 w4 hs4; simp only [Value.cells] at hs4)
  refine hKp.out _ _ ?_
  clear hKp Kp
  (try simp only [Act.put, aP, aZ, aS])
  refine pl_done ?_
  refine hK0.out _ _ ?_
  (try clear hK0 K0)
  refine wk_seq (fun K1 hK1 => ?_)
  refine wk_reg ?_
  iterate 4 (refine pl_take (v := ?_) rfl ?_ ?_; rotate_left; (· (first | (first | ((with_reducible apply yl_b2s); assumption; rfl; (repeat (first | with_reducible assumption | with_reducible exact Rd.own | with_reducible exact Rd.nil | with_reducible apply Rd.cons)); rfl) | (go_simp; first | done | with_reducible rfl | rfl | omega | assumption | (simp; omega))) | (go_simp; first | done | with_reducible rfl | rfl | omega | assumption | (simp; omega)))); (try simp only [Act.put, aP, aZ, aS]))
  refine pl_eff rfl (fun Kp hKp => ?_)
  ((with_reducible apply st_buildSlice); assumption; rfl; (go_simp; rfl); (simp [Value.cells]); omega; intro b9 w9 hs9)
  refine hKp.out _ _ ?_
  clear hKp Kp
  (try simp only [Act.put, aP, aZ, aS])
  refine pl_take (v := ?_) rfl ?_ ?_
  rotate_left
  · (go_simp; first | done | with_reducible rfl | rfl | omega | assumption | (simp; omega))
  (try simp only [Act.put, aP, aZ, aS])
  refine pl_eff rfl (fun Kp hKp => ?_)
  (first | ((with_reducible apply st_storeAll); assumption; rfl; (go_simp; rfl); (repeat (first | with_reducible exact Out.here _ | apply Out.there)); rfl; (focus (first | (simp [Value.oneCell']; done) | (simp [Value.cells, Value.oneCell']; done))); rfl; intro wr1_6 hsr1_6; simp only [Value.cells] at hsr1_6) | ((with_reducible apply st_store); assumption; rfl; (go_simp; rfl); (repeat (first | with_reducible exact Out.here _ | apply Out.there)); rfl; (first | (focus (simp [Value.oneCell']; done)) | (simp [Value.cells, Value.oneCell'])); (first | (focus (simp; done)) | (simp [Value.cells])); intro wr1_6 hsr1_6; simp only [upd, Value.cells] at hsr1_6))
  refine hKp.out _ _ ?_
  clear hKp Kp
  (try dsimp only [Act.put])
  refine pl_done ?_
  refine hK1.out _ _ ?_
  (try clear hK1 K1)
  refine wp_ret ?_
  ((try simp only [Exit.then]); refine retC1 rfl rfl (by assumption) (by (repeat (first | exact Out.here _ | apply Out.there))) (by simp) rfl rfl ?_)
  exact ⟨b9, rfl, (by assumption : Sat w0 _ _).pick (by (repeat (first | exact Pick.nil _ | exact Pick.tail _ | exact Out.here _ | apply Out.there | apply Pick.cons | apply Pick.drop)))⟩

theorem slV3 {w0 : World} {L : List HP} {b p1 p2 p3 : Nat} (x1 x2 x3 : Ent) {c1 c2 c3 : List Value} (e1 : B8 x1.d = c1) (e2 : B8 x2.d = c2) (e3 : B8 x3.d = c3) (n1 : x1.d.length = 1) (n2 : x2.d.length = 1) (n3 : x3.d.length = 1)
    (g1 : In64 x1.t ∧ In64 x1.i ∧ In64 x1.k) (g2 : In64 x2.t ∧ In64 x2.i ∧ In64 x2.k) (g3 : In64 x3.t ∧ In64 x3.i ∧ In64 x3.k)
    (h1 : Rd w0 L (some ⟨p1, 0, none⟩) 1 1 c1) (h2 : Rd w0 L (some ⟨p2, 0, none⟩) 1 1 c2) (h3 : Rd w0 L (some ⟨p3, 0, none⟩) 1 1 c3)
    (hR : Rd w0 L (some ⟨b, 0, none⟩) 3 4 (entsCells [(x1, some ⟨p1, 0, none⟩, 1), (x2, some ⟨p2, 0, none⟩, 1), (x3, some ⟨p3, 0, none⟩, 1)])) : SlV EntV 4 (Rd w0 L) [.slice (some ⟨b, 0, none⟩) 3 3] [x1, x2, x3] := by
  subst e1 e2 e3
  refine ents_slV [(x1, some ⟨p1, 0, none⟩, 1), (x2, some ⟨p2, 0, none⟩, 1), (x3, some ⟨p3, 0, none⟩, 1)] (fun y hy => ?_) hR (fun y hy => ?_)
  · simp only [List.mem_cons, List.not_mem_nil, or_false] at hy
    rcases hy with rfl | rfl | rfl
    · exact g1
    · exact g2
    · exact g3
  · simp only [List.mem_cons, List.not_mem_nil, or_false] at hy
    rcases hy with rfl | rfl | rfl
    · simp only; rw [n1]; exact h1
    · simp only; rw [n2]; exact h2
    · simp only; rw [n3]; exact h3

theorem match_known : matchV ⟨0, 0, [⟨1, 1, 2, [1]⟩, ⟨1, 2, 2, [1]⟩, ⟨2, 3, 2, [2]⟩]⟩ ⟨0, 0, [⟨1, 1, 2, [1]⟩, ⟨2, 2, 2, [2]⟩, ⟨2, 3, 2, [2]⟩]⟩ = 2 := by decide +kernel

theorem u8_1 : IntKind.u8.wrap 1 = 1 := by decide
theorem u8_2 : IntKind.u8.wrap 2 = 2 := by decide
theorem in3 {a b c : Int} (h1 : 0 ≤ a ∧ a ≤ 9) (h2 : 0 ≤ b ∧ b ≤ 9) (h3 : 0 ≤ c ∧ c ≤ 9) : In64 a ∧ In64 b ∧ In64 c := by unfold In64; omega

abbrev entV (t i : Int) (p : Nat) : Value := .agg #[.int .i64 t, .int .i64 i, .int .i64 2, .slice (some ⟨p, 0, none⟩) 1 1]
abbrev seenV (i : Int) : Value := .agg #[.int .i64 i, .int .i64 3, .int .i64 0, .bool true, .int .i64 0, .int .i64 0, .slice none 0 0]

theorem knows20_spec {w0 w : World} {L : List HP} (hs : Sat w0 w L) : Calls Try.prog 13 #[] w (RetB w0 L true) := by
  go_enter Try.func13, Try.ntmps13
  refine wk_seq (fun K0 hK0 => ?_)
  refine wk_reg ?_
  refine pl_take (v := .bool false) rfl ?_ ?_
  · (go_simp; first | done | with_reducible rfl | rfl | omega | assumption | (simp; omega))
  (try simp only [Act.put, aP, aZ])
  refine pl_done ?_
  refine hK0.out _ _ ?_
  (try clear hK0 K0)
  refine wk_seq (fun K1 hK1 => ?_)
  refine wk_reg ?_
  refine pl_eff rfl (fun Kp hKp => ?_)
  go_simp
  (refine (entry20_spec 1 1 u8_1 (by assumption)).mono ?_; rintro e3 w3 ⟨p3, rfl, hs3⟩)
  (try go_wp2_with fail)
  refine hKp.out _ _ ?_
  clear hKp Kp
  (try simp only [Act.put, aP, aZ, aS])
  refine pl_eff rfl (fun Kp hKp => ?_)
  go_simp
  (refine (entry20_spec 1 2 u8_1 (by assumption)).mono ?_; rintro e4 w4 ⟨p4, rfl, hs4⟩)
  (try go_wp2_with fail)
  refine hKp.out _ _ ?_
  clear hKp Kp
  (try simp only [Act.put, aP, aZ, aS])
  refine pl_eff rfl (fun Kp hKp => ?_)
  go_simp
  (refine (entry20_spec 2 3 u8_2 (by assumption)).mono ?_; rintro e5 w5 ⟨p5, rfl, hs5⟩)
  (try go_wp2_with fail)
  refine hKp.out _ _ ?_
  clear hKp Kp
  (try simp only [Act.put, aP, aZ, aS])
  refine pl_eff rfl (fun Kp hKp => ?_)
  ((with_reducible apply st_buildMany (sz := 4) (n := 3) (vs := [entV 1 1 p3, entV 1 2 p4, entV 2 3 p5])); assumption; rfl; rfl; (simp [Value.cells]); omega; omega; omega; intro b6 w6 hs6)
  refine hKp.out _ _ ?_
  clear hKp Kp
  (try simp only [Act.put, aP, aZ, aS])
  refine pl_take (v := ?_) rfl ?_ ?_
  rotate_left
  · (go_simp; first | done | with_reducible rfl | rfl | omega | assumption | (simp; omega))
  (try simp only [Act.put, aP, aZ, aS])
  refine pl_eff rfl (fun Kp hKp => ?_)
  go_simp
  (refine (view_spec 0 0 [⟨1, 1, 2, [1]⟩, ⟨1, 2, 2, [1]⟩, ⟨2, 3, 2, [2]⟩] (by simp) (by simp) (by assumption) (slV3 (p1 := p3) (p2 := p4) (p3 := p5) ⟨1, 1, 2, [1]⟩ ⟨1, 2, 2, [1]⟩ ⟨2, 3, 2, [2]⟩ rfl rfl rfl rfl rfl rfl (in3 (by simp) (by simp) (by simp)) (in3 (by simp) (by simp) (by simp)) (in3 (by simp) (by simp) (by simp)) Rd.own.cons.cons.cons Rd.own.cons.cons Rd.own.cons Rd.own)).mono ?_; rintro e8 w8 ⟨A8, c8, ys8, hys8, rfl, hs8⟩; have hEx := ents_slV' (w0 := w0) (L := L) (A := A8) (c := c8) ys8 hys8 (by intro x hx; simp only [List.mem_cons, List.not_mem_nil, or_false] at hx; rcases hx with rfl | rfl | rfl <;> exact in3 (by simp) (by simp) (by simp)))
  (try go_wp2_with fail)
  refine hKp.out _ _ ?_
  clear hKp Kp
  (try simp only [Act.put, aP, aZ, aS])
  refine pl_eff rfl (fun Kp hKp => ?_)
  ((with_reducible apply st_alloc); assumption; intro b1 w1 hs1; simp only [Value.cells] at hs1)
  refine hKp.out _ _ ?_
  clear hKp Kp
  (try simp only [Act.put, aP, aZ, aS])
  refine pl_eff rfl (fun Kp hKp => ?_)
  (first | ((with_reducible apply st_storeAll); assumption; rfl; (go_simp; rfl); (repeat (first | with_reducible exact Out.here _ | apply Out.there)); rfl; (focus (first | (simp [Value.oneCell']; done) | (simp [Value.cells, Value.oneCell']; done))); rfl; intro wr1_7 hsr1_7; simp only [Value.cells] at hsr1_7) | ((with_reducible apply st_store); assumption; rfl; (go_simp; rfl); (repeat (first | with_reducible exact Out.here _ | apply Out.there)); rfl; (first | (focus (simp [Value.oneCell']; done)) | (simp [Value.cells, Value.oneCell'])); (first | (focus (simp; done)) | (simp [Value.cells])); intro wr1_7 hsr1_7; simp only [upd, Value.cells] at hsr1_7))
  refine hKp.out _ _ ?_
  clear hKp Kp
  (try dsimp only [Act.put])
  refine pl_done ?_
  refine hK1.out _ _ ?_
  (try clear hK1 K1)
  refine wk_seq (fun K2 hK2 => ?_)
  refine wk_reg ?_
  refine pl_eff rfl (fun Kp hKp => ?_)
  go_simp
  (refine (entry20_spec 1 1 u8_1 (by assumption)).mono ?_; rintro e9 w9 ⟨p9, rfl, hs9⟩)
  (try go_wp2_with fail)
  refine hKp.out _ _ ?_
  clear hKp Kp
  (try simp only [Act.put, aP, aZ, aS])
  refine pl_eff rfl (fun Kp hKp => ?_)
  go_simp
  (refine (entry20_spec 2 2 u8_2 (by assumption)).mono ?_; rintro e10 w10 ⟨p10, rfl, hs10⟩)
  (try go_wp2_with fail)
  refine hKp.out _ _ ?_
  clear hKp Kp
  (try simp only [Act.put, aP, aZ, aS])
  refine pl_eff rfl (fun Kp hKp => ?_)
  go_simp
  (refine (entry20_spec 2 3 u8_2 (by assumption)).mono ?_; rintro e11 w11 ⟨p11, rfl, hs11⟩)
  (try go_wp2_with fail)
  refine hKp.out _ _ ?_
  clear hKp Kp
  (try simp only [Act.put, aP, aZ, aS])
  refine pl_eff rfl (fun Kp hKp => ?_)
  ((with_reducible apply st_buildMany (sz := 4) (n := 3) (vs := [entV 1 1 p9, entV 2 2 p10, entV 2 3 p11])); assumption; rfl; rfl; (simp [Value.cells]); omega; omega; omega; intro b12 w12 hs12)
  refine hKp.out _ _ ?_
  clear hKp Kp
  (try simp only [Act.put, aP, aZ, aS])
  refine pl_take (v := ?_) rfl ?_ ?_
  rotate_left
  · (go_simp; first | done | with_reducible rfl | rfl | omega | assumption | (simp; omega))
  (try simp only [Act.put, aP, aZ, aS])
  refine pl_eff rfl (fun Kp hKp => ?_)
  go_simp
  (refine (view_spec 0 0 [⟨1, 1, 2, [1]⟩, ⟨2, 2, 2, [2]⟩, ⟨2, 3, 2, [2]⟩] (by simp) (by simp) (by assumption) (slV3 (p1 := p9) (p2 := p10) (p3 := p11) ⟨1, 1, 2, [1]⟩ ⟨2, 2, 2, [2]⟩ ⟨2, 3, 2, [2]⟩ rfl rfl rfl rfl rfl rfl (in3 (by simp) (by simp) (by simp)) (in3 (by simp) (by simp) (by simp)) (in3 (by simp) (by simp) (by simp)) Rd.own.cons.cons.cons Rd.own.cons.cons Rd.own.cons Rd.own)).mono ?_; rintro e14 w14 ⟨A14, c14, ys14, hys14, rfl, hs14⟩; have hEy := ents_slV' (w0 := w0) (L := L) (A := A14) (c := c14) ys14 hys14 (by intro x hx; simp only [List.mem_cons, List.not_mem_nil, or_false] at hx; rcases hx with rfl | rfl | rfl <;> exact in3 (by simp) (by simp) (by simp)))
  (try go_wp2_with fail)
  refine hKp.out _ _ ?_
  clear hKp Kp
  (try simp only [Act.put, aP, aZ, aS])
  refine pl_eff rfl (fun Kp hKp => ?_)
  ((with_reducible apply st_alloc); assumption; intro b2 w2 hs2; simp only [Value.cells] at hs2)
  refine hKp.out _ _ ?_
  clear hKp Kp
  (try simp only [Act.put, aP, aZ, aS])
  refine pl_eff rfl (fun Kp hKp => ?_)
  (first | ((with_reducible apply st_storeAll); assumption; rfl; (go_simp; rfl); (repeat (first | with_reducible exact Out.here _ | apply Out.there)); rfl; (focus (first | (simp [Value.oneCell']; done) | (simp [Value.cells, Value.oneCell']; done))); rfl; intro wr2_7 hsr2_7; simp only [Value.cells] at hsr2_7) | ((with_reducible apply st_store); assumption; rfl; (go_simp; rfl); (repeat (first | with_reducible exact Out.here _ | apply Out.there)); rfl; (first | (focus (simp [Value.oneCell']; done)) | (simp [Value.cells, Value.oneCell'])); (first | (focus (simp; done)) | (simp [Value.cells])); intro wr2_7 hsr2_7; simp only [upd, Value.cells] at hsr2_7))
  refine hKp.out _ _ ?_
  clear hKp Kp
  (try dsimp only [Act.put])
  refine pl_done ?_
  refine hK2.out _ _ ?_
  (try clear hK2 K2)
  refine wk_seq (fun K3 hK3 => ?_)
  refine wk_reg ?_
  iterate 2 (refine pl_take (v := ?_) rfl ?_ ?_; rotate_left; (· (first | ((with_reducible apply yl_loadAgg); assumption; rfl; (repeat (first | with_reducible exact Out.here _ | apply Out.there)); (simp); rfl; rfl) | ((with_reducible apply yl_loadAggR); assumption; rfl; (repeat (first | with_reducible assumption | with_reducible exact Rd.own | with_reducible exact Rd.nil | with_reducible apply Rd.cons)); rfl))); (try simp only [Act.put, aP, aZ, aS]))
  refine pl_eff rfl (fun Kp hKp => ?_)
  go_simp
  (refine (match_spec 0 0 [⟨1, 1, 2, [1]⟩, ⟨1, 2, 2, [1]⟩, ⟨2, 3, 2, [2]⟩] 0 0 [⟨1, 1, 2, [1]⟩, ⟨2, 2, 2, [2]⟩, ⟨2, 3, 2, [2]⟩] (by simp) (by simp) (by simp) (by simp) (by assumption) ((SlV.mono EntV.mono).pick (by (repeat (first | exact Pick.nil _ | exact Pick.tail _ | exact Out.here _ | apply Out.there | apply Pick.cons | apply Pick.drop))) hEx) ((SlV.mono EntV.mono).pick (by (repeat (first | exact Pick.nil _ | exact Pick.tail _ | exact Out.here _ | apply Out.there | apply Pick.cons | apply Pick.drop))) hEy)).mono ?_; rintro e17 w17 ⟨rfl, hs17⟩; rw [match_known])
  (try go_wp2_with fail)
  refine hKp.out _ _ ?_
  clear hKp Kp
  (try simp only [Act.put, aP, aZ, aS])
  iterate 2 (refine pl_take (v := .bool true) rfl ?_ ?_; (· (go_simp; first | done | with_reducible rfl | rfl | omega | assumption | (simp; omega))); (try simp only [Act.put, aP, aZ, aS]))
  iterate 2 (refine pl_take (v := ?_) (by kernel_rfl) ?_ ?_; rotate_left; (· (go_simp; first | done | with_reducible rfl | rfl | omega | assumption | (simp; omega))); (try simp only [Act.put, aP, aZ, aS]))
  refine pl_eff (by kernel_rfl) (fun Kp hKp => ?_)
  ((with_reducible apply st_buildMany (sz := 7) (n := 2) (vs := [seenV 1, seenV 2])); assumption; rfl; rfl; (simp [Value.cells]); omega; omega; omega; intro b22 w22 hs22)
  refine hKp.out _ _ ?_
  clear hKp Kp
  (try simp only [Act.put, aP, aZ, aS])
  refine pl_eff (by kernel_rfl) (fun Kp hKp => ?_)
  go_simp
  (refine (leaders_two (by assumption) Rd.own).mono ?_; rintro e23 w23 ⟨rfl, hs23⟩)
  (try go_wp2_with fail)
  refine hKp.out _ _ ?_
  clear hKp Kp
  (try simp only [Act.put, aP, aZ, aS])
  refine pl_take (v := .bool true) (by kernel_rfl) ?_ ?_
  · (go_simp; first | done | with_reducible rfl | rfl | omega | assumption | (simp; omega))
  (try simp only [Act.put, aP, aZ, aS])
  iterate 2 (refine pl_take (v := .bool true) rfl ?_ ?_; (· (go_simp; first | done | with_reducible rfl | rfl | omega | assumption | (simp; omega))); (try simp only [Act.put, aP, aZ, aS]))
  refine pl_eff (by kernel_rfl) (fun Kp hKp => ?_)
  go_simp
  (refine (leaders_nil (by assumption)).mono ?_; rintro e27 w27 ⟨rfl, hs27⟩)
  (try go_wp2_with fail)
  refine hKp.out _ _ ?_
  clear hKp Kp
  (try simp only [Act.put, aP, aZ, aS])
  refine pl_take (v := .bool true) (by kernel_rfl) ?_ ?_
  · (go_simp; first | done | with_reducible rfl | rfl | omega | assumption | (simp; omega))
  (try simp only [Act.put, aP, aZ, aS])
  refine pl_take (v := .bool true) rfl ?_ ?_
  · (go_simp; first | done | with_reducible rfl | rfl | omega | assumption | (simp; omega))
  (try simp only [Act.put, aP, aZ, aS])
  refine pl_take (v := .bool true) rfl ?_ ?_
  · (go_simp; first | done | with_reducible rfl | rfl | omega | assumption | (simp; omega))
  (try simp only [Act.put, aP, aZ])
  refine pl_done ?_
  refine hK3.out _ _ ?_
  (try clear hK3 K3)
  refine wp_ret ?_
  go_ret
  exact ⟨rfl, (by assumption : Sat w0 _ _).pick (by (repeat (first | exact Pick.nil _ | exact Pick.tail _ | exact Out.here _ | apply Out.there | apply Pick.cons | apply Pick.drop)))⟩
end Go.Proofs.Ytcpcdhlfdabbnaa
