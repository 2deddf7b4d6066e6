/-
  Views of logs: in memory of their own; are two the same?
-/
import Derived.Test.YtcpcdhlfdabbnaaW2
namespace Go.Proofs.Ytcpcdhlfdabbnaa
open Go Go.RowKit Sl Go.Shelf
set_option maxHeartbeats 20000000
set_option maxRecDepth 8000

/-- Entries in memory of one's own (their data but read). -/
def RetOE (w0 : World) (L : List HP) (l : List Ent) (e : Ending) (w' : World) : Prop :=
  ∃ (A : Option Addr) (c : Nat) (ys : List (Ent × Option Addr × Nat)), ys.map (·.1) = l ∧ e = .returned (.slice A l.length c) ∧ Sat w0 w' (own 46 4 A c l.length (entsCells ys) :: DV (entsData ys) :: L)

theorem own3_specW {w0 w : World} {L : List HP} {A : Option Addr} {c : Nat} (t i k : Int) (d : List UInt8) (hl : d.length ≤ 4294967296) (hs : Sat w0 w L) (hR : Rd w0 L A d.length 1 (B8 d)) :
    Calls Try.prog 54 #[.agg #[.int .i64 t, .int .i64 i, .int .i64 k, .slice A d.length c]] w (RetRE w0 L ⟨t, i, k, d⟩) := own_spec hl hs hR


theorem own12_spec {w0 w : World} {L : List HP} {A : Option Addr} {c : Nat} (es : List Ent) (he : es.length ≤ 1048576) (hlen : ∀ x ∈ es, x.d.length ≤ 1048576) (hs : Sat w0 w L)
    (hE : SlV EntV 4 (Rd w0 L) [.slice A es.length c] es) :
    Calls Try.prog 23 #[.slice A es.length c] w (RetOE w0 L es) := by
  obtain ⟨A', ca', vs, he1, hRv, hvl, hel⟩ := hE
  simp only [List.cons.injEq, Value.slice.injEq, and_true, true_and] at he1
  obtain ⟨rfl, rfl⟩ := he1
  go_enter Try.func23, Try.ntmps23
  have hsA0 := (hs.own_nil 46 4).dv_nil
  refine wk_seq (fun K0 hK0 => ?_)
  refine wk_reg ?_
  refine pl_take (v := ?_) rfl ?_ ?_
  rotate_left
  · (go_simp; first | done | with_reducible rfl | rfl | omega | assumption | (simp; omega))
  (try simp only [Act.put, aP, aZ, aS])
  refine pl_done ?_
  refine hK0.out _ _ ?_
  (try clear hK0 K0)
  refine wk_seq (fun K1 hK1 => ?_)
  refine wk_reg ?_
  refine pl_take (v := ?_) rfl ?_ ?_
  rotate_left
  · (go_simp; first | done | with_reducible rfl | rfl | omega | assumption | (simp; omega))
  (try simp only [Act.put, aP, aZ, aS])
  refine pl_done ?_
  refine hK1.out _ _ ?_
  (try clear hK1 K1)
  refine wk_seq (fun K2 hK2 => ?_)
  refine wk_seq (fun K3 hK3 => ?_)
  refine wk_reg ?_
  refine pl_take (v := ?_) rfl ?_ ?_
  rotate_left
  · (go_simp; first | done | with_reducible rfl | rfl | omega | assumption | (simp; omega))
  (try simp only [Act.put, aP, aZ, aS])
  refine pl_done ?_
  refine hK3.out _ _ ?_
  (try clear hK3 K3)
  refine wp_block ?_
  -- at a loop
  go_loopw [3, 4] (fun s3 i wr => ∃ (k : Nat) (A4 : Option Addr) (c4 : Nat) (ys : List (Ent × Option Addr × Nat)), s3 = .slice A4 k c4 ∧ i = .int .i64 k ∧ k ≤ es.length ∧ ys.length = k ∧ ys.map (·.1) = es.take k ∧ Sat w0 wr (own 46 4 A4 c4 k (entsCells ys) :: DV (entsData ys) :: L)) (fun _ i _ => es.length - (intOf i).toNat)
  case atStart => exact ⟨0, none, 0, [], rfl, rfl, Nat.zero_le _, rfl, by simp, hsA0.pick (by (repeat (first | exact Pick.nil _ | exact Pick.tail _ | exact Out.here _ | apply Out.there | apply Pick.cons | apply Pick.drop)))⟩
  case round =>
    obtain ⟨k, A4, c4, ys, rfl, rfl, hk, hyl, hym, hsC⟩ := hrel
    clear hsA0
    by_cases hlt : k < es.length
    · obtain ⟨x, hx⟩ : ∃ x, es[k]? = some x := ⟨es[k], List.getElem?_eq_getElem hlt⟩
      obtain ⟨⟨Ax, cx, ex, hrx⟩, _⟩ := hel k x hx
      obtain ⟨ga, oa, rfl⟩ := hRv.some_of hs (by omega)
      have hrow := hRv.row_at k hlt
      rw [ex] at hrow
      have hxl := hlen x (List.mem_of_getElem? hx)
      obtain ⟨t, i, q, d⟩ := x
      simp only at hrow hrx hxl
      have i0 : (0 : Int) ≤ (k : Int) := by omega
      have i1 : (k : Int) < (es.length : Int) := by omega
      have hwk : IntKind.i64.wrap ((k : Int) + 1) = (k : Int) + 1 := IntWalk.i64_in _ (by omega)
      clear ex hel
      refine wk_seq (fun K4 hK4 => ?_)
      refine wk_seq (fun K5 hK5 => ?_)
      refine wk_reg ?_
      iterate 3 (refine pl_take (v := ?_) rfl ?_ ?_; rotate_left; (· (go_simp; first | done | with_reducible rfl | rfl | omega | assumption | (simp; omega))); (try simp only [Act.put, aP, aZ, aS]))
      refine pl_take (v := .bool true) rfl ?_ ?_
      · (go_simp; first | done | with_reducible rfl | rfl | omega | assumption | (simp; omega))
      (try simp only [Act.put, aP, aZ, aS])
      refine pl_done ?_
      refine hK5.out _ _ ?_
      (try clear hK5 K5)
      refine wp_cond_true rfl ?_
      refine wp_skip ?_
      refine hK4.out _ _ ?_
      (try clear hK4 K4)
      refine wk_seq (fun K6 hK6 => ?_)
      refine wp_block ?_
      refine wk_reg ?_
      iterate 5 (refine pl_take (v := ?_) rfl ?_ ?_; rotate_left; (· (first | (first | ((with_reducible apply yl_loadAgg); assumption; rfl; (repeat (first | with_reducible exact Out.here _ | apply Out.there)); (simp); rfl; rfl) | ((with_reducible apply yl_loadAggR); assumption; rfl; (repeat (first | with_reducible assumption | with_reducible exact Rd.own | with_reducible exact Rd.nil | with_reducible apply Rd.cons)); rfl)) | (go_simp; first | done | with_reducible rfl | rfl | omega | assumption | (simp; omega)))); (try simp only [Act.put, aP, aZ, aS]))
      refine pl_eff rfl (fun Kp hKp => ?_)
      go_simp
      ((refine (own3_specW _ _ _ _ (by omega) (by assumption) (by (repeat (first | with_reducible assumption | with_reducible exact Rd.own | with_reducible exact Rd.nil | with_reducible apply Rd.cons)))).mono ?_); rintro e16 w16 ⟨A16, c16, rfl, hs16⟩)
      (try go_wp2_with fail)
      refine hKp.out _ _ ?_
      clear hKp Kp
      (try simp only [Act.put, aP, aZ, aS])
      refine pl_eff rfl (fun Kp hKp => ?_)
      ((with_reducible apply st_buildOne (sz := 4)); assumption; (go_simp; rfl); rfl; omega; omega; intro b17 w17 hs17; simp only [Value.cells] at hs17)
      refine hKp.out _ _ ?_
      clear hKp Kp
      (try simp only [Act.put, aP, aZ, aS])
      refine pl_eff rfl (fun Kp hKp => ?_)
      ((with_reducible apply st_append); go_must (assumption; rfl; rfl; (repeat (first | with_reducible exact Out.here _ | apply Out.there)); (repeat (first | with_reducible assumption | with_reducible exact Rd.own | with_reducible exact Rd.nil | with_reducible apply Rd.cons)); (first | exact B8_one _ | exact I8_one _ | (simp [Value.oneCell'])); (first | omega | (simp only [maxLen]; omega)); omega; intro A18 c18 w18 hs18 hc18; (try ((refine hs18.own_elim ?_ ?_); omega; rintro g18 rfl)); try simp only [Nat.zero_add, List.nil_append] at hs18 hc18))
      refine hKp.out _ _ ?_
      clear hKp Kp
      (try simp only [Act.put, aP, aZ, aS])
      refine pl_take (v := ?_) rfl ?_ ?_
      rotate_left
      · (go_simp; first | done | with_reducible rfl | rfl | omega | assumption | (simp; omega))
      (try simp only [Act.put, aP, aZ, aS])
      refine pl_done ?_
      refine hK6.out _ _ ?_
      (try clear hK6 K6)
      refine wk_reg ?_
      iterate 3 (refine pl_take (v := ?_) rfl ?_ ?_; rotate_left; (· (go_simp; first | done | with_reducible rfl | rfl | omega | assumption | (simp; omega))); (try simp only [Act.put, aP, aZ, aS]))
      refine pl_done ?_
      dsimp only [Exit.then]
      go_roundw
      case rel => (refine ⟨k + 1, some ⟨g18, 0, none⟩, c18, ys ++ [(⟨t, i, q, d⟩, A16, c16)], by go_num, by go_num, by omega, by simp [hyl], by rw [List.map_append, hym, List.map_singleton, take_snoc hx], ?_⟩; rw [entsCells_snoc, entsData_snoc]; refine Sat.dv_snoc2 (E := 5) (c := c16) ?_; exact (by assumption : Sat w0 _ _).pick (by simp only [entCells]; (repeat (first | exact Pick.nil _ | exact Pick.tail _ | exact Out.here _ | apply Out.there | apply Pick.cons | apply Pick.drop))))
      case measure => simp [intOf]; omega
    · obtain rfl : k = es.length := by omega
      refine wk_seq (fun K4 hK4 => ?_)
      refine wk_seq (fun K5 hK5 => ?_)
      refine wk_reg ?_
      iterate 3 (refine pl_take (v := ?_) rfl ?_ ?_; rotate_left; (· (go_simp; first | done | with_reducible rfl | rfl | omega | assumption | (simp; omega))); (try simp only [Act.put, aP, aZ, aS]))
      refine pl_take (v := .bool false) rfl ?_ ?_
      · (go_simp; first | done | with_reducible rfl | rfl | omega | assumption | (simp; omega))
      (try simp only [Act.put, aP, aZ, aS])
      refine pl_done ?_
      refine hK5.out _ _ ?_
      (try clear hK5 K5)
      refine wp_cond_false rfl ?_
      refine wp_exit ?_
      refine hK2.out _ _ ?_
      (try clear hK2 K2)
      refine wk_seq (fun K7 hK7 => ?_)
      refine wk_reg ?_
      iterate 2 (refine pl_take (v := ?_) rfl ?_ ?_; rotate_left; (· (go_simp; first | done | with_reducible rfl | rfl | omega | assumption | (simp; omega))); (try simp only [Act.put, aP, aZ, aS]))
      refine pl_done ?_
      refine hK7.out _ _ ?_
      (try clear hK7 K7)
      refine wp_ret ?_
      go_ret
      exact ⟨_, _, ys, by rw [hym, List.take_length], rfl, (by assumption : Sat w0 _ _).pick (by (repeat (first | exact Pick.nil _ | exact Pick.tail _ | exact Out.here _ | apply Out.there | apply Pick.cons | apply Pick.drop)))⟩

theorem view_spec {w0 w : World} {L : List HP} {A : Option Addr} {c : Nat} (b t : Int) (l : List Ent) (hl : l.length ≤ 1048576) (hd : ∀ x ∈ l, x.d.length ≤ 1048576) (hs : Sat w0 w L)
    (hE : SlV EntV 4 (Rd w0 L) [.slice A l.length c] l) :
    Calls Try.prog 21 #[.agg #[.int .i64 b, .int .i64 t, .slice A l.length c]] w (fun e w' => ∃ (A' : Option Addr) (c' : Nat) (ys : List (Ent × Option Addr × Nat)), ys.map (·.1) = l ∧ e = .returned (.agg #[.int .i64 b, .int .i64 t, .slice A' l.length c']) ∧ Sat w0 w' (own 46 4 A' c' l.length (entsCells ys) :: DV (entsData ys) :: L)) := by
  go_enter Try.func21, Try.ntmps21
  refine wk_seq (fun K0 hK0 => ?_)
  refine wk_reg ?_
  refine pl_eff rfl (fun Kp hKp => ?_)
  ((with_reducible apply st_box); assumption; (go_simp; rfl); intro b1 w1 hs1; simp only [Value.cells] at hs1)
  refine hKp.out _ _ ?_
  clear hKp Kp
  (try simp only [Act.put, aP, aZ, aS])
  refine pl_eff rfl (fun Kp hKp => ?_)
  ((with_reducible apply st_alloc); assumption; intro b2 w2 hs2; simp only [Value.cells] at hs2)
  refine hKp.out _ _ ?_
  clear hKp Kp
  (try simp only [Act.put, aP, aZ, aS])
  refine pl_done ?_
  refine hK0.out _ _ ?_
  (try clear hK0 K0)
  refine wk_seq (fun K1 hK1 => ?_)
  refine rg_start2 (L := blk b1 (.cells #[.int .i64 b, .int .i64 t, .slice A l.length c] 30 (0, 0)) :: L) rfl (by assumption) (by (repeat (first | exact Pick.nil _ | with_reducible exact Pick.tail _ | with_reducible exact Out.here _ | apply Out.there | apply Pick.cons | apply Pick.drop))) (fun wr1 hsr1 hsq1 => ?_)
  have hsz1 := hsr1
  refine rg_take (i := 0) (v := ?_) rfl (by kernel_rfl) (by kernel_rfl) (by kernel_rfl) (fun _ _ _ h => h) rfl (by assumption) ?_ ?_
  rotate_left
  · intro w hSw; (go_simp; first | done | with_reducible rfl | rfl | omega | assumption | (simp; omega))
  (try simp only [Act.put, aP, aZ, aS])
  refine rg_take (i := 1) (v := ?_) rfl (by kernel_rfl) (by kernel_rfl) (by kernel_rfl) (fun _ _ _ h => h) rfl (by assumption) ?_ ?_
  rotate_left
  · intro w hSw; ((with_reducible apply yl_load); assumption; rfl; (repeat (first | with_reducible assumption | ((with_reducible apply Cl.own); exact rfl) | ((with_reducible apply Cl.blkL); exact rfl) | with_reducible apply Cl.cons)); rfl)
  (try simp only [Act.put, aP, aZ, aS])
  refine rg_take (i := 2) (v := ?_) rfl (by kernel_rfl) (by kernel_rfl) (by kernel_rfl) (fun _ _ _ h => h) rfl (by assumption) ?_ ?_
  rotate_left
  · intro w hSw; (go_simp; first | done | with_reducible rfl | rfl | omega | assumption | (simp; omega))
  (try simp only [Act.put, aP, aZ, aS])
  refine rg_take (i := 3) (v := ?_) rfl (by kernel_rfl) (by kernel_rfl) (by kernel_rfl) (fun _ _ _ h => h) rfl (by assumption) ?_ ?_
  rotate_left
  · intro w hSw; ((with_reducible apply yl_load); assumption; rfl; (repeat (first | with_reducible assumption | ((with_reducible apply Cl.own); exact rfl) | ((with_reducible apply Cl.blkL); exact rfl) | with_reducible apply Cl.cons)); rfl)
  (try simp only [Act.put, aP, aZ, aS])
  refine rg_take (i := 4) (v := ?_) rfl (by kernel_rfl) (by kernel_rfl) (by kernel_rfl) (fun _ _ _ h => h) rfl (by assumption) ?_ ?_
  rotate_left
  · intro w hSw; (go_simp; first | done | with_reducible rfl | rfl | omega | assumption | (simp; omega))
  (try simp only [Act.put, aP, aZ, aS])
  refine rg_take (i := 5) (v := ?_) rfl (by kernel_rfl) (by kernel_rfl) (by kernel_rfl) (fun _ _ _ h => h) rfl (by assumption) ?_ ?_
  rotate_left
  · intro w hSw; ((with_reducible apply yl_load); assumption; rfl; (repeat (first | with_reducible assumption | ((with_reducible apply Cl.own); exact rfl) | ((with_reducible apply Cl.blkL); exact rfl) | with_reducible apply Cl.cons)); rfl)
  (try simp only [Act.put, aP, aZ, aS])
  refine rg_one (i := 6) (by kernel_rfl) rfl rfl (fun Kp hKp => ?_)
  go_simp
  (refine (own12_spec l hl hd (by assumption) ((SlV.mono EntV.mono).pick (by (repeat (first | exact Pick.nil _ | exact Pick.tail _ | exact Out.here _ | apply Out.there | apply Pick.cons | apply Pick.drop))) hE)).mono ?_; rintro e9 w9 ⟨A9, c9, ys, hys, rfl, hs9⟩)
  (try go_wp2_with fail)
  refine rg_back (hK := hKp) ?_ (fun hsk9 => ?_)
  · (first | assumption | (apply Sat.drew; assumption) | (apply Sat.pick; assumption; (repeat (first | exact Pick.nil _ | with_reducible exact Pick.tail _ | with_reducible exact Out.here _ | apply Out.there | apply Pick.cons | apply Pick.drop))))
  clear hKp Kp
  have hsz9 := hs9
  (try simp only [Act.put, aP, aZ, aS])
  refine rg_take (i := 7) (v := ?_) rfl (by kernel_rfl) (by kernel_rfl) (by kernel_rfl) (fun _ _ _ h => h) rfl (by assumption) ?_ ?_
  rotate_left
  · intro w hSw; (go_simp; first | done | with_reducible rfl | rfl | omega | assumption | (simp; omega))
  (try simp only [Act.put, aP, aZ, aS])
  refine rg_one (i := 8) (by kernel_rfl) rfl rfl (fun Kp hKp => ?_)
  (first | ((with_reducible apply st_storeAll); assumption; rfl; (go_simp; rfl); (repeat (first | with_reducible exact Out.here _ | apply Out.there)); rfl; (focus (first | (simp [Value.oneCell']; done) | (simp [Value.cells, Value.oneCell']; done))); rfl; intro wr1_8 hsr1_8; simp only [Value.cells] at hsr1_8) | ((with_reducible apply st_store); assumption; rfl; (go_simp; rfl); (repeat (first | with_reducible exact Out.here _ | apply Out.there)); rfl; (first | (focus (simp [Value.oneCell']; done)) | (simp [Value.cells, Value.oneCell'])); (first | (focus (simp; done)) | (simp [Value.cells])); intro wr1_8 hsr1_8; simp only [upd, Value.cells] at hsr1_8))
  refine rg_back (hK := hKp) ?_ (fun hskr1_8 => ?_)
  · (first | assumption | (apply Sat.drew; assumption) | (apply Sat.pick; assumption; (repeat (first | exact Pick.nil _ | with_reducible exact Pick.tail _ | with_reducible exact Out.here _ | apply Out.there | apply Pick.cons | apply Pick.drop))))
  clear hKp Kp
  have hszr1_8 := hsr1_8
  (try dsimp only [Act.put])
  refine rg_done (by kernel_rfl) ?_
  refine hK1.out _ _ ?_
  (try clear hK1 K1)
  refine wp_ret ?_
  ((try simp only [Exit.then]); refine retC1 rfl rfl (by assumption) (by (repeat (first | exact Out.here _ | apply Out.there))) (by simp) rfl rfl ?_)
  exact ⟨A9, c9, ys, hys, rfl, (by assumption : Sat w0 _ _).pick (by (repeat (first | exact Pick.nil _ | exact Pick.tail _ | exact Out.here _ | apply Out.there | apply Pick.cons | apply Pick.drop)))⟩

theorem seen_spec {w0 w : World} {L : List HP} {A : Option Addr} {c : Nat} (id tm cm : Int) (ld : Bool) (b t : Int) (l : List Ent) (hl : l.length ≤ 1048576) (hd : ∀ x ∈ l, x.d.length ≤ 1048576) (hs : Sat w0 w L)
    (hE : SlV EntV 4 (Rd w0 L) [.slice A l.length c] l) :
    Calls Try.prog 10 #[.agg #[.int .i64 id, .int .i64 tm, .int .i64 cm, .bool ld, .int .i64 b, .int .i64 t, .slice A l.length c]] w (fun e w' => ∃ (A' : Option Addr) (c' : Nat) (ys : List (Ent × Option Addr × Nat)), ys.map (·.1) = l ∧ e = .returned (.agg #[.int .i64 id, .int .i64 tm, .int .i64 cm, .bool ld, .int .i64 b, .int .i64 t, .slice A' l.length c']) ∧ Sat w0 w' (own 46 4 A' c' l.length (entsCells ys) :: DV (entsData ys) :: L)) := by
  go_enter Try.func10, Try.ntmps10
  refine wk_seq (fun K0 hK0 => ?_)
  refine wk_reg ?_
  refine pl_eff rfl (fun Kp hKp => ?_)
  ((with_reducible apply st_box); assumption; (go_simp; rfl); intro b1 w1 hs1; simp only [Value.cells] at hs1)
  refine hKp.out _ _ ?_
  clear hKp Kp
  (try simp only [Act.put, aP, aZ, aS])
  refine pl_eff rfl (fun Kp hKp => ?_)
  ((with_reducible apply st_alloc); assumption; intro b2 w2 hs2; simp only [Value.cells] at hs2)
  refine hKp.out _ _ ?_
  clear hKp Kp
  (try simp only [Act.put, aP, aZ, aS])
  refine pl_done ?_
  refine hK0.out _ _ ?_
  (try clear hK0 K0)
  refine wk_seq (fun K1 hK1 => ?_)
  refine rg_start2 (L := blk b1 (.cells #[.int .i64 id, .int .i64 tm, .int .i64 cm, .bool ld, .int .i64 b, .int .i64 t, .slice A l.length c] 32 (0, 0)) :: L) rfl (by assumption) (by (repeat (first | exact Pick.nil _ | with_reducible exact Pick.tail _ | with_reducible exact Out.here _ | apply Out.there | apply Pick.cons | apply Pick.drop))) (fun wr1 hsr1 hsq1 => ?_)
  have hsz1 := hsr1
  refine rg_take (i := 0) (v := ?_) rfl (by kernel_rfl) (by kernel_rfl) (by kernel_rfl) (fun _ _ _ h => h) rfl (by assumption) ?_ ?_
  rotate_left
  · intro w hSw; (go_simp; first | done | with_reducible rfl | rfl | omega | assumption | (simp; omega))
  (try simp only [Act.put, aP, aZ, aS])
  refine rg_take (i := 1) (v := ?_) rfl (by kernel_rfl) (by kernel_rfl) (by kernel_rfl) (fun _ _ _ h => h) rfl (by assumption) ?_ ?_
  rotate_left
  · intro w hSw; ((with_reducible apply yl_load); assumption; rfl; (repeat (first | with_reducible assumption | ((with_reducible apply Cl.own); exact rfl) | ((with_reducible apply Cl.blkL); exact rfl) | with_reducible apply Cl.cons)); rfl)
  (try simp only [Act.put, aP, aZ, aS])
  refine rg_take (i := 2) (v := ?_) rfl (by kernel_rfl) (by kernel_rfl) (by kernel_rfl) (fun _ _ _ h => h) rfl (by assumption) ?_ ?_
  rotate_left
  · intro w hSw; (go_simp; first | done | with_reducible rfl | rfl | omega | assumption | (simp; omega))
  (try simp only [Act.put, aP, aZ, aS])
  refine rg_take (i := 3) (v := ?_) rfl (by kernel_rfl) (by kernel_rfl) (by kernel_rfl) (fun _ _ _ h => h) rfl (by assumption) ?_ ?_
  rotate_left
  · intro w hSw; ((with_reducible apply yl_load); assumption; rfl; (repeat (first | with_reducible assumption | ((with_reducible apply Cl.own); exact rfl) | ((with_reducible apply Cl.blkL); exact rfl) | with_reducible apply Cl.cons)); rfl)
  (try simp only [Act.put, aP, aZ, aS])
  refine rg_take (i := 4) (v := ?_) rfl (by kernel_rfl) (by kernel_rfl) (by kernel_rfl) (fun _ _ _ h => h) rfl (by assumption) ?_ ?_
  rotate_left
  · intro w hSw; (go_simp; first | done | with_reducible rfl | rfl | omega | assumption | (simp; omega))
  (try simp only [Act.put, aP, aZ, aS])
  refine rg_take (i := 5) (v := ?_) rfl (by kernel_rfl) (by kernel_rfl) (by kernel_rfl) (fun _ _ _ h => h) rfl (by assumption) ?_ ?_
  rotate_left
  · intro w hSw; ((with_reducible apply yl_load); assumption; rfl; (repeat (first | with_reducible assumption | ((with_reducible apply Cl.own); exact rfl) | ((with_reducible apply Cl.blkL); exact rfl) | with_reducible apply Cl.cons)); rfl)
  (try simp only [Act.put, aP, aZ, aS])
  refine rg_take (i := 6) (v := ?_) rfl (by kernel_rfl) (by kernel_rfl) (by kernel_rfl) (fun _ _ _ h => h) rfl (by assumption) ?_ ?_
  rotate_left
  · intro w hSw; (go_simp; first | done | with_reducible rfl | rfl | omega | assumption | (simp; omega))
  (try simp only [Act.put, aP, aZ, aS])
  refine rg_take (i := 7) (v := ?_) rfl (by kernel_rfl) (by kernel_rfl) (by kernel_rfl) (fun _ _ _ h => h) rfl (by assumption) ?_ ?_
  rotate_left
  · intro w hSw; ((with_reducible apply yl_load); assumption; rfl; (repeat (first | with_reducible assumption | ((with_reducible apply Cl.own); exact rfl) | ((with_reducible apply Cl.blkL); exact rfl) | with_reducible apply Cl.cons)); rfl)
  (try simp only [Act.put, aP, aZ, aS])
  refine rg_take (i := 8) (v := ?_) rfl (by kernel_rfl) (by kernel_rfl) (by kernel_rfl) (fun _ _ _ h => h) rfl (by assumption) ?_ ?_
  rotate_left
  · intro w hSw; (go_simp; first | done | with_reducible rfl | rfl | omega | assumption | (simp; omega))
  (try simp only [Act.put, aP, aZ, aS])
  refine rg_take (i := 9) (v := ?_) rfl (by kernel_rfl) (by kernel_rfl) (by kernel_rfl) (fun _ _ _ h => h) rfl (by assumption) ?_ ?_
  rotate_left
  · intro w hSw; (first | ((with_reducible apply yl_loadAgg); assumption; rfl; (repeat (first | with_reducible exact Out.here _ | apply Out.there)); (simp); rfl; rfl) | ((with_reducible apply yl_loadAggR); assumption; rfl; (repeat (first | with_reducible assumption | with_reducible exact Rd.own | with_reducible exact Rd.nil | with_reducible apply Rd.cons)); rfl))
  (try simp only [Act.put, aP, aZ, aS])
  refine rg_one (i := 10) (by kernel_rfl) rfl rfl (fun Kp hKp => ?_)
  go_simp
  (refine (view_spec b t l hl hd (by assumption) ((SlV.mono EntV.mono).pick (by (repeat (first | exact Pick.nil _ | exact Pick.tail _ | exact Out.here _ | apply Out.there | apply Pick.cons | apply Pick.drop))) hE)).mono ?_; rintro e13 w13 ⟨A13, c13, ys, hys, rfl, hs13⟩)
  (try go_wp2_with fail)
  refine rg_back (hK := hKp) ?_ (fun hsk13 => ?_)
  · (first | assumption | (apply Sat.drew; assumption) | (apply Sat.pick; assumption; (repeat (first | exact Pick.nil _ | with_reducible exact Pick.tail _ | with_reducible exact Out.here _ | apply Out.there | apply Pick.cons | apply Pick.drop))))
  clear hKp Kp
  have hsz13 := hs13
  (try simp only [Act.put, aP, aZ, aS])
  refine rg_take (i := 11) (v := ?_) rfl (by kernel_rfl) (by kernel_rfl) (by kernel_rfl) (fun _ _ _ h => h) rfl (by assumption) ?_ ?_
  rotate_left
  · intro w hSw; (go_simp; first | done | with_reducible rfl | rfl | omega | assumption | (simp; omega))
  (try simp only [Act.put, aP, aZ, aS])
  refine rg_one (i := 12) (by kernel_rfl) rfl rfl (fun Kp hKp => ?_)
  (first | ((with_reducible apply st_storeAll); assumption; rfl; (go_simp; rfl); (repeat (first | with_reducible exact Out.here _ | apply Out.there)); rfl; (focus (first | (simp [Value.oneCell']; done) | (simp [Value.cells, Value.oneCell']; done))); rfl; intro wr1_12 hsr1_12; simp only [Value.cells] at hsr1_12) | ((with_reducible apply st_store); assumption; rfl; (go_simp; rfl); (repeat (first | with_reducible exact Out.here _ | apply Out.there)); rfl; (first | (focus (simp [Value.oneCell']; done)) | (simp [Value.cells, Value.oneCell'])); (first | (focus (simp; done)) | (simp [Value.cells])); intro wr1_12 hsr1_12; simp only [upd, Value.cells] at hsr1_12))
  refine rg_back (hK := hKp) ?_ (fun hskr1_12 => ?_)
  · (first | assumption | (apply Sat.drew; assumption) | (apply Sat.pick; assumption; (repeat (first | exact Pick.nil _ | with_reducible exact Pick.tail _ | with_reducible exact Out.here _ | apply Out.there | apply Pick.cons | apply Pick.drop))))
  clear hKp Kp
  have hszr1_12 := hsr1_12
  (try dsimp only [Act.put])
  refine rg_done (by kernel_rfl) ?_
  refine hK1.out _ _ ?_
  (try clear hK1 K1)
  refine wp_ret ?_
  ((try simp only [Exit.then]); refine retC1 rfl rfl (by assumption) (by (repeat (first | exact Out.here _ | apply Out.there))) (by simp) rfl rfl ?_)
  exact ⟨A13, c13, ys, hys, rfl, (by assumption : Sat w0 _ _).pick (by (repeat (first | exact Pick.nil _ | exact Pick.tail _ | exact Out.here _ | apply Out.there | apply Pick.cons | apply Pick.drop)))⟩

theorem entries12_spec {w0 w : World} {L : List HP} {A A' : Option Addr} {c c' : Nat} (es es' : List Ent) (b : Bool) (hb : b = true ↔ es = es') (he : es.length ≤ 1048576) (hs : Sat w0 w L)
    (hE : SlV EntV 4 (Rd w0 L) [.slice A es.length c] es) (hE' : SlV EntV 4 (Rd w0 L) [.slice A' es'.length c'] es') :
    Calls Try.prog 34 #[.slice A es.length c, .slice A' es'.length c'] w (RetB w0 L b) := by
  have Hb := Hid.mk' hb
  clear hb
  by_cases k0 : (es.length : Int) ≠ (es'.length : Int)
  · obtain rfl : b = false := by
      rw [Bool.eq_false_iff]; intro h; apply k0; rw [Hb.out.1 h]
    have k1 : ((es.length : Int) != (es'.length : Int)) = true := by simpa using k0
    go_enter Try.func34, Try.ntmps34
    refine wk_seq (fun K0 hK0 => ?_)
    refine wk_reg ?_
    refine pl_take (v := .bool false) rfl ?_ ?_
    · (go_simp; first | done | with_reducible rfl | rfl | omega | assumption | (simp; omega))
    (try simp only [Act.put, aP, aZ, aS])
    refine pl_done ?_
    refine hK0.out _ _ ?_
    (try clear hK0 K0)
    refine wk_seq (fun K1 hK1 => ?_)
    refine wk_seq (fun K2 hK2 => ?_)
    refine wk_reg ?_
    iterate 4 (refine pl_take (v := ?_) rfl ?_ ?_; rotate_left; (· (go_simp; first | done | with_reducible rfl | rfl | omega | assumption | (simp; omega))); (try simp only [Act.put, aP, aZ, aS]))
    refine pl_take (v := .bool true) rfl ?_ ?_
    · (go_simp; first | done | with_reducible rfl | rfl | omega | assumption | (simp; omega))
    (try simp only [Act.put, aP, aZ, aS])
    refine pl_done ?_
    refine hK2.out _ _ ?_
    (try clear hK2 K2)
    refine wp_cond_true rfl ?_
    refine wk_seq (fun K3 hK3 => ?_)
    refine wk_reg ?_
    refine pl_take (v := .bool false) rfl ?_ ?_
    · (go_simp; first | done | with_reducible rfl | rfl | omega | assumption | (simp; omega))
    (try simp only [Act.put, aP, aZ, aS])
    refine pl_done ?_
    refine hK3.out _ _ ?_
    (try clear hK3 K3)
    refine wp_ret ?_
    go_ret
    exact ⟨rfl, (by assumption : Sat w0 _ _).pick (by (repeat (first | exact Pick.nil _ | exact Pick.tail _ | exact Out.here _ | apply Out.there | apply Pick.cons | apply Pick.drop)))⟩
  · have Hll : Hid (es.length = es'.length) := by unfold Hid; omega
    have k1 : ((es.length : Int) != (es'.length : Int)) = false := by simpa using k0
    clear k0
    obtain ⟨A1, ca1, vs, he1, hRv, hvl, hel⟩ := hE
    simp only [List.cons.injEq, Value.slice.injEq, and_true, true_and] at he1
    obtain ⟨rfl, rfl⟩ := he1
    obtain ⟨A2, ca2, vs', he2, hRv', hvl', hel'⟩ := hE'
    simp only [List.cons.injEq, Value.slice.injEq, and_true, true_and] at he2
    obtain ⟨rfl, rfl⟩ := he2
    go_enter Try.func34, Try.ntmps34
    refine wk_seq (fun K0 hK0 => ?_)
    refine wk_reg ?_
    refine pl_take (v := .bool false) rfl ?_ ?_
    · (go_simp; first | done | with_reducible rfl | rfl | omega | assumption | (simp; omega))
    (try simp only [Act.put, aP, aZ, aS])
    refine pl_done ?_
    refine hK0.out _ _ ?_
    (try clear hK0 K0)
    refine wk_seq (fun K1 hK1 => ?_)
    refine wk_seq (fun K2 hK2 => ?_)
    refine wk_reg ?_
    iterate 4 (refine pl_take (v := ?_) rfl ?_ ?_; rotate_left; (· (go_simp; first | done | with_reducible rfl | rfl | omega | assumption | (simp; omega))); (try simp only [Act.put, aP, aZ, aS]))
    refine pl_take (v := .bool false) rfl ?_ ?_
    · (go_simp; first | done | with_reducible rfl | rfl | omega | assumption | (simp; omega))
    (try simp only [Act.put, aP, aZ, aS])
    refine pl_done ?_
    refine hK2.out _ _ ?_
    (try clear hK2 K2)
    refine wp_cond_false rfl ?_
    refine wp_skip ?_
    refine hK1.out _ _ ?_
    (try clear hK1 K1)
    refine wk_seq (fun K4 hK4 => ?_)
    refine wk_seq (fun K5 hK5 => ?_)
    refine wk_reg ?_
    refine pl_take (v := ?_) rfl ?_ ?_
    rotate_left
    · (go_simp; first | done | with_reducible rfl | rfl | omega | assumption | (simp; omega))
    (try simp only [Act.put, aP, aZ, aS])
    refine pl_done ?_
    refine hK5.out _ _ ?_
    (try clear hK5 K5)
    refine wp_block ?_
    -- at a loop
    go_loopw [5] (fun i wr => ∃ k : Nat, i = .int .i64 k ∧ k ≤ es.length ∧ Hid (es.take k = es'.take k) ∧ Sat w0 wr L) (fun i _ => es.length - (intOf i).toNat)
    case atStart => exact ⟨0, rfl, Nat.zero_le _, by unfold Hid; simp, (by assumption : Sat w0 _ _).pick (by (repeat (first | exact Pick.nil _ | exact Pick.tail _ | exact Out.here _ | apply Out.there | apply Pick.cons | apply Pick.drop)))⟩
    case round =>
      obtain ⟨k, rfl, hk, Hk, hsC⟩ := hrel
      by_cases hlt : k < es.length
      · obtain ⟨x, hx⟩ : ∃ x, es[k]? = some x := ⟨es[k], List.getElem?_eq_getElem hlt⟩
        obtain ⟨y, hy⟩ : ∃ y, es'[k]? = some y := ⟨es'[k], List.getElem?_eq_getElem (by have := Hll.out; omega)⟩
        obtain ⟨⟨Ax, cx, ex, hrx⟩, _⟩ := hel k x hx
        obtain ⟨⟨Ay, cy, ey, hry⟩, _⟩ := hel' k y hy
        obtain ⟨ga, oa, rfl⟩ := hRv.some_of hs (by omega)
        obtain ⟨gb, ob, rfl⟩ := hRv'.some_of hs (by have := Hll.out; omega)
        have hrow := hRv.row_at k hlt
        have hrow' := hRv'.row_at k (by have := Hll.out; omega)
        rw [ex] at hrow
        rw [ey] at hrow'
        have Hx := Hid.mk' hx
        have Hy := Hid.mk' hy
        obtain ⟨t, i, q, d⟩ := x
        obtain ⟨t', i', q', d'⟩ := y
        simp only at hrow hrx hrow' hry
        obtain ⟨β, hβ⟩ : ∃ β, ((t == t') && (i == i') && (q == q') && (d == d')) = β := ⟨_, rfl⟩
        have hS : ∀ {w : World} {L : List HP}, Sat w0 w L → Rd w0 L Ax d.length 1 (B8 d) → Rd w0 L Ay d'.length 1 (B8 d') → Calls Try.prog 65 #[.agg #[.int .i64 t, .int .i64 i, .int .i64 q, .slice Ax d.length cx], .agg #[.int .i64 t', .int .i64 i', .int .i64 q', .slice Ay d'.length cy]] w (RetB w0 L β) := fun hs h1 h2 => by
          rw [← hβ]; exact same_spec hs h1 h2
        have Hβ : Hid (β = true ↔ (⟨t, i, q, d⟩ : Ent) = ⟨t', i', q', d'⟩) := by unfold Hid; rw [← hβ]; simp [Bool.and_eq_true, and_assoc]
        have i0 : (0 : Int) ≤ (k : Int) := by omega
        have i1 : (k : Int) < (es.length : Int) := by omega
        have i2 : (k : Int) < (es'.length : Int) := by have := Hll.out; omega
        have hwk : IntKind.i64.wrap ((k : Int) + 1) = (k : Int) + 1 := IntWalk.i64_in _ (by omega)
        clear hx hy ex ey hel hel' hβ
        cases β with
        | true =>
          refine wk_seq (fun K6 hK6 => ?_)
          refine wk_seq (fun K7 hK7 => ?_)
          refine wk_reg ?_
          iterate 3 (refine pl_take (v := ?_) rfl ?_ ?_; rotate_left; (· (go_simp; first | done | with_reducible rfl | rfl | omega | assumption | (simp; omega))); (try simp only [Act.put, aP, aZ, aS]))
          refine pl_take (v := .bool true) rfl ?_ ?_
          · (go_simp; first | done | with_reducible rfl | rfl | omega | assumption | (simp; omega))
          (try simp only [Act.put, aP, aZ, aS])
          refine pl_done ?_
          refine hK7.out _ _ ?_
          (try clear hK7 K7)
          refine wp_cond_true rfl ?_
          refine wp_skip ?_
          refine hK6.out _ _ ?_
          (try clear hK6 K6)
          refine wk_seq (fun K8 hK8 => ?_)
          refine wp_block ?_
          refine wk_seq (fun K9 hK9 => ?_)
          refine rg_start rfl (by assumption) (fun wr6 hsr6 => ?_)
          refine rg_take (i := 0) (v := ?_) rfl (by kernel_rfl) (by kernel_rfl) (by kernel_rfl) (fun _ _ _ h => h) rfl (by assumption) ?_ ?_
          rotate_left
          · intro w hSw; (go_simp; first | done | with_reducible rfl | rfl | omega | assumption | (simp; omega))
          (try simp only [Act.put, aP, aZ, aS])
          refine rg_take (i := 1) (v := ?_) rfl (by kernel_rfl) (by kernel_rfl) (by kernel_rfl) (fun _ _ _ h => h) rfl (by assumption) ?_ ?_
          rotate_left
          · intro w hSw; (go_simp; first | done | with_reducible rfl | rfl | omega | assumption | (simp; omega))
          (try simp only [Act.put, aP, aZ, aS])
          refine rg_take (i := 2) (v := ?_) rfl (by kernel_rfl) (by kernel_rfl) (by kernel_rfl) (fun _ _ _ h => h) rfl (by assumption) ?_ ?_
          rotate_left
          · intro w hSw; (go_simp; first | done | with_reducible rfl | rfl | omega | assumption | (simp; omega))
          (try simp only [Act.put, aP, aZ, aS])
          refine rg_take (i := 3) (v := ?_) rfl (by kernel_rfl) (by kernel_rfl) (by kernel_rfl) (fun _ _ _ h => h) rfl (by assumption) ?_ ?_
          rotate_left
          · intro w hSw; (first | ((with_reducible apply yl_loadAgg); assumption; rfl; (repeat (first | with_reducible exact Out.here _ | apply Out.there)); (simp); rfl; rfl) | ((with_reducible apply yl_loadAggR); assumption; rfl; (repeat (first | with_reducible assumption | with_reducible exact Rd.own | with_reducible exact Rd.nil | with_reducible apply Rd.cons)); rfl))
          (try simp only [Act.put, aP, aZ, aS])
          refine rg_take (i := 4) (v := ?_) rfl (by kernel_rfl) (by kernel_rfl) (by kernel_rfl) (fun _ _ _ h => h) rfl (by assumption) ?_ ?_
          rotate_left
          · intro w hSw; (go_simp; first | done | with_reducible rfl | rfl | omega | assumption | (simp; omega))
          (try simp only [Act.put, aP, aZ, aS])
          refine rg_take (i := 5) (v := ?_) rfl (by kernel_rfl) (by kernel_rfl) (by kernel_rfl) (fun _ _ _ h => h) rfl (by assumption) ?_ ?_
          rotate_left
          · intro w hSw; (go_simp; first | done | with_reducible rfl | rfl | omega | assumption | (simp; omega))
          (try simp only [Act.put, aP, aZ, aS])
          refine rg_take (i := 6) (v := ?_) rfl (by kernel_rfl) (by kernel_rfl) (by kernel_rfl) (fun _ _ _ h => h) rfl (by assumption) ?_ ?_
          rotate_left
          · intro w hSw; (go_simp; first | done | with_reducible rfl | rfl | omega | assumption | (simp; omega))
          (try simp only [Act.put, aP, aZ, aS])
          refine rg_take (i := 7) (v := ?_) rfl (by kernel_rfl) (by kernel_rfl) (by kernel_rfl) (fun _ _ _ h => h) rfl (by assumption) ?_ ?_
          rotate_left
          · intro w hSw; (first | ((with_reducible apply yl_loadAgg); assumption; rfl; (repeat (first | with_reducible exact Out.here _ | apply Out.there)); (simp); rfl; rfl) | ((with_reducible apply yl_loadAggR); assumption; rfl; (repeat (first | with_reducible assumption | with_reducible exact Rd.own | with_reducible exact Rd.nil | with_reducible apply Rd.cons)); rfl))
          (try simp only [Act.put, aP, aZ, aS])
          refine rg_one (i := 8) (by kernel_rfl) rfl rfl (fun Kp hKp => ?_)
          go_simp
          (refine (hS (by assumption) (by (repeat (first | with_reducible assumption | with_reducible exact Rd.own | with_reducible exact Rd.nil | with_reducible apply Rd.cons))) (by (repeat (first | with_reducible assumption | with_reducible exact Rd.own | with_reducible exact Rd.nil | with_reducible apply Rd.cons)))).mono ?_; rintro e25 w25 ⟨rfl, hs25⟩)
          (try go_wp2_with fail)
          refine rg_back (hK := hKp) ?_ (fun hsk25 => ?_)
          · (first | assumption | (apply Sat.drew; assumption) | (apply Sat.pick; assumption; (repeat (first | exact Pick.nil _ | with_reducible exact Pick.tail _ | with_reducible exact Out.here _ | apply Out.there | apply Pick.cons | apply Pick.drop))))
          clear hKp Kp
          have hsz25 := hs25
          (try simp only [Act.put, aP, aZ, aS])
          refine rg_take (i := 9) (v := .bool false) rfl (by kernel_rfl) (by kernel_rfl) (by kernel_rfl) (fun _ _ _ h => h) rfl (by assumption) ?_ ?_
          · intro w hSw; (go_simp; first | done | with_reducible rfl | rfl | omega | assumption | (simp; omega))
          (try simp only [Act.put, aP, aZ, aS])
          refine rg_done (by kernel_rfl) ?_
          refine hK9.out _ _ ?_
          (try clear hK9 K9)
          refine wp_cond_false rfl ?_
          refine wp_skip ?_
          refine hK8.out _ _ ?_
          (try clear hK8 K8)
          refine wk_reg ?_
          iterate 3 (refine pl_take (v := ?_) rfl ?_ ?_; rotate_left; (· (go_simp; first | done | with_reducible rfl | rfl | omega | assumption | (simp; omega))); (try simp only [Act.put, aP, aZ, aS]))
          refine pl_done ?_
          dsimp only [Exit.then]
          go_roundw
          case rel => exact ⟨k + 1, by go_num, by omega, (by unfold Hid; rw [List.take_add_one, List.take_add_one, Hk.out, Hx.out, Hy.out, Hβ.out.1 (by simp)]), (by assumption : Sat w0 _ _).pick (by (repeat (first | exact Pick.nil _ | exact Pick.tail _ | exact Out.here _ | apply Out.there | apply Pick.cons | apply Pick.drop)))⟩
          case measure => simp [intOf]; omega
        | false =>
          refine wk_seq (fun K6 hK6 => ?_)
          refine wk_seq (fun K7 hK7 => ?_)
          refine wk_reg ?_
          iterate 3 (refine pl_take (v := ?_) rfl ?_ ?_; rotate_left; (· (go_simp; first | done | with_reducible rfl | rfl | omega | assumption | (simp; omega))); (try simp only [Act.put, aP, aZ, aS]))
          refine pl_take (v := .bool true) rfl ?_ ?_
          · (go_simp; first | done | with_reducible rfl | rfl | omega | assumption | (simp; omega))
          (try simp only [Act.put, aP, aZ, aS])
          refine pl_done ?_
          refine hK7.out _ _ ?_
          (try clear hK7 K7)
          refine wp_cond_true rfl ?_
          refine wp_skip ?_
          refine hK6.out _ _ ?_
          (try clear hK6 K6)
          refine wk_seq (fun K8 hK8 => ?_)
          refine wp_block ?_
          refine wk_seq (fun K9 hK9 => ?_)
          refine rg_start rfl (by assumption) (fun wr6 hsr6 => ?_)
          refine rg_take (i := 0) (v := ?_) rfl (by kernel_rfl) (by kernel_rfl) (by kernel_rfl) (fun _ _ _ h => h) rfl (by assumption) ?_ ?_
          rotate_left
          · intro w hSw; (go_simp; first | done | with_reducible rfl | rfl | omega | assumption | (simp; omega))
          (try simp only [Act.put, aP, aZ, aS])
          refine rg_take (i := 1) (v := ?_) rfl (by kernel_rfl) (by kernel_rfl) (by kernel_rfl) (fun _ _ _ h => h) rfl (by assumption) ?_ ?_
          rotate_left
          · intro w hSw; (go_simp; first | done | with_reducible rfl | rfl | omega | assumption | (simp; omega))
          (try simp only [Act.put, aP, aZ, aS])
          refine rg_take (i := 2) (v := ?_) rfl (by kernel_rfl) (by kernel_rfl) (by kernel_rfl) (fun _ _ _ h => h) rfl (by assumption) ?_ ?_
          rotate_left
          · intro w hSw; (go_simp; first | done | with_reducible rfl | rfl | omega | assumption | (simp; omega))
          (try simp only [Act.put, aP, aZ, aS])
          refine rg_take (i := 3) (v := ?_) rfl (by kernel_rfl) (by kernel_rfl) (by kernel_rfl) (fun _ _ _ h => h) rfl (by assumption) ?_ ?_
          rotate_left
          · intro w hSw; (first | ((with_reducible apply yl_loadAgg); assumption; rfl; (repeat (first | with_reducible exact Out.here _ | apply Out.there)); (simp); rfl; rfl) | ((with_reducible apply yl_loadAggR); assumption; rfl; (repeat (first | with_reducible assumption | with_reducible exact Rd.own | with_reducible exact Rd.nil | with_reducible apply Rd.cons)); rfl))
          (try simp only [Act.put, aP, aZ, aS])
          refine rg_take (i := 4) (v := ?_) rfl (by kernel_rfl) (by kernel_rfl) (by kernel_rfl) (fun _ _ _ h => h) rfl (by assumption) ?_ ?_
          rotate_left
          · intro w hSw; (go_simp; first | done | with_reducible rfl | rfl | omega | assumption | (simp; omega))
          (try simp only [Act.put, aP, aZ, aS])
          refine rg_take (i := 5) (v := ?_) rfl (by kernel_rfl) (by kernel_rfl) (by kernel_rfl) (fun _ _ _ h => h) rfl (by assumption) ?_ ?_
          rotate_left
          · intro w hSw; (go_simp; first | done | with_reducible rfl | rfl | omega | assumption | (simp; omega))
          (try simp only [Act.put, aP, aZ, aS])
          refine rg_take (i := 6) (v := ?_) rfl (by kernel_rfl) (by kernel_rfl) (by kernel_rfl) (fun _ _ _ h => h) rfl (by assumption) ?_ ?_
          rotate_left
          · intro w hSw; (go_simp; first | done | with_reducible rfl | rfl | omega | assumption | (simp; omega))
          (try simp only [Act.put, aP, aZ, aS])
          refine rg_take (i := 7) (v := ?_) rfl (by kernel_rfl) (by kernel_rfl) (by kernel_rfl) (fun _ _ _ h => h) rfl (by assumption) ?_ ?_
          rotate_left
          · intro w hSw; (first | ((with_reducible apply yl_loadAgg); assumption; rfl; (repeat (first | with_reducible exact Out.here _ | apply Out.there)); (simp); rfl; rfl) | ((with_reducible apply yl_loadAggR); assumption; rfl; (repeat (first | with_reducible assumption | with_reducible exact Rd.own | with_reducible exact Rd.nil | with_reducible apply Rd.cons)); rfl))
          (try simp only [Act.put, aP, aZ, aS])
          refine rg_one (i := 8) (by kernel_rfl) rfl rfl (fun Kp hKp => ?_)
          go_simp
          (refine (hS (by assumption) (by (repeat (first | with_reducible assumption | with_reducible exact Rd.own | with_reducible exact Rd.nil | with_reducible apply Rd.cons))) (by (repeat (first | with_reducible assumption | with_reducible exact Rd.own | with_reducible exact Rd.nil | with_reducible apply Rd.cons)))).mono ?_; rintro e25 w25 ⟨rfl, hs25⟩)
          (try go_wp2_with fail)
          refine rg_back (hK := hKp) ?_ (fun hsk25 => ?_)
          · (first | assumption | (apply Sat.drew; assumption) | (apply Sat.pick; assumption; (repeat (first | exact Pick.nil _ | with_reducible exact Pick.tail _ | with_reducible exact Out.here _ | apply Out.there | apply Pick.cons | apply Pick.drop))))
          clear hKp Kp
          have hsz25 := hs25
          (try simp only [Act.put, aP, aZ, aS])
          refine rg_take (i := 9) (v := .bool true) rfl (by kernel_rfl) (by kernel_rfl) (by kernel_rfl) (fun _ _ _ h => h) rfl (by assumption) ?_ ?_
          · intro w hSw; (go_simp; first | done | with_reducible rfl | rfl | omega | assumption | (simp; omega))
          (try simp only [Act.put, aP, aZ, aS])
          refine rg_done (by kernel_rfl) ?_
          refine hK9.out _ _ ?_
          (try clear hK9 K9)
          refine wp_cond_true rfl ?_
          refine wk_seq (fun K10 hK10 => ?_)
          refine wk_reg ?_
          refine pl_take (v := .bool false) rfl ?_ ?_
          · (go_simp; first | done | with_reducible rfl | rfl | omega | assumption | (simp; omega))
          (try simp only [Act.put, aP, aZ, aS])
          refine pl_done ?_
          refine hK10.out _ _ ?_
          (try clear hK10 K10)
          refine wp_ret ?_
          go_ret
          refine ⟨?_, (by assumption : Sat w0 _ _).pick (by (repeat (first | exact Pick.nil _ | exact Pick.tail _ | exact Out.here _ | apply Out.there | apply Pick.cons | apply Pick.drop)))⟩
          cases b with
          | false => rfl
          | true =>
            exfalso
            have h1 := Hb.out.1 rfl
            have h2 := Hx.out
            rw [h1, Hy.out] at h2
            exact absurd (Hβ.out.2 (Option.some.inj h2).symm) (by simp)
      · obtain rfl : k = es.length := by omega
        refine wk_seq (fun K6 hK6 => ?_)
        refine wk_seq (fun K7 hK7 => ?_)
        refine wk_reg ?_
        iterate 3 (refine pl_take (v := ?_) rfl ?_ ?_; rotate_left; (· (go_simp; first | done | with_reducible rfl | rfl | omega | assumption | (simp; omega))); (try simp only [Act.put, aP, aZ, aS]))
        refine pl_take (v := .bool false) rfl ?_ ?_
        · (go_simp; first | done | with_reducible rfl | rfl | omega | assumption | (simp; omega))
        (try simp only [Act.put, aP, aZ, aS])
        refine pl_done ?_
        refine hK7.out _ _ ?_
        (try clear hK7 K7)
        refine wp_cond_false rfl ?_
        refine wp_exit ?_
        refine hK4.out _ _ ?_
        (try clear hK4 K4)
        refine wk_seq (fun K11 hK11 => ?_)
        refine wk_reg ?_
        refine pl_take (v := .bool true) rfl ?_ ?_
        · (go_simp; first | done | with_reducible rfl | rfl | omega | assumption | (simp; omega))
        (try simp only [Act.put, aP, aZ, aS])
        refine pl_done ?_
        refine hK11.out _ _ ?_
        (try clear hK11 K11)
        refine wp_ret ?_
        go_ret
        refine ⟨?_, (by assumption : Sat w0 _ _).pick (by (repeat (first | exact Pick.nil _ | exact Pick.tail _ | exact Out.here _ | apply Out.there | apply Pick.cons | apply Pick.drop)))⟩
        have h1 : es = es' := by have := Hk.out; rw [List.take_length, Hll.out, List.take_length] at this; exact this
        obtain rfl : b = true := Hb.out.2 h1
        rfl

theorem same12_spec {w0 w : World} {L : List HP} {A A' : Option Addr} {c c' : Nat} (b t : Int) (es : List Ent) (he : es.length ≤ 1048576) (hs : Sat w0 w L)
    (hE : SlV EntV 4 (Rd w0 L) [.slice A es.length c] es) (hE' : SlV EntV 4 (Rd w0 L) [.slice A' es.length c'] es) :
    Calls Try.prog 18 #[.agg #[.int .i64 b, .int .i64 t, .slice A es.length c], .agg #[.int .i64 b, .int .i64 t, .slice A' es.length c']] w (RetB w0 L true) := by
  go_enter Try.func18, Try.ntmps18
  refine wk_seq (fun K0 hK0 => ?_)
  refine wk_reg ?_
  refine pl_eff rfl (fun Kp hKp => ?_)
  ((with_reducible apply st_box); assumption; (go_simp; rfl); intro b2 w2 hs2; simp only [Value.cells] at hs2)
  refine hKp.out _ _ ?_
  clear hKp Kp
  (try simp only [Act.put, aP, aZ, aS])
  refine pl_eff rfl (fun Kp hKp => ?_)
  ((with_reducible apply st_box); assumption; (go_simp; rfl); intro b3 w3 hs3; simp only [Value.cells] at hs3)
  refine hKp.out _ _ ?_
  clear hKp Kp
  (try simp only [Act.put, aP, aZ, aS])
  refine pl_take (v := .bool false) rfl ?_ ?_
  · (go_simp; first | done | with_reducible rfl | rfl | omega | assumption | (simp; omega))
  (try simp only [Act.put, aP, aZ, aS])
  refine pl_done ?_
  refine hK0.out _ _ ?_
  (try clear hK0 K0)
  refine wk_seq (fun K1 hK1 => ?_)
  refine wk_reg ?_
  iterate 4 (refine pl_take (v := ?_) rfl ?_ ?_; rotate_left; (· (first | ((with_reducible apply yl_load); assumption; rfl; (repeat (first | with_reducible assumption | ((with_reducible apply Cl.own); exact rfl) | ((with_reducible apply Cl.blkL); exact rfl) | with_reducible apply Cl.cons)); rfl) | (go_simp; first | done | with_reducible rfl | rfl | omega | assumption | (simp; omega)))); (try simp only [Act.put, aP, aZ, aS]))
  iterate 2 (refine pl_take (v := .bool true) rfl ?_ ?_; (· (go_simp; first | done | with_reducible rfl | rfl | omega | assumption | (simp; omega))); (try simp only [Act.put, aP, aZ, aS]))
  iterate 4 (refine pl_take (v := ?_) (by kernel_rfl) ?_ ?_; rotate_left; (· (first | ((with_reducible apply yl_load); assumption; rfl; (repeat (first | with_reducible assumption | ((with_reducible apply Cl.own); exact rfl) | ((with_reducible apply Cl.blkL); exact rfl) | with_reducible apply Cl.cons)); rfl) | (go_simp; first | done | with_reducible rfl | rfl | omega | assumption | (simp; omega)))); (try simp only [Act.put, aP, aZ, aS]))
  refine pl_take (v := .bool true) (by kernel_rfl) ?_ ?_
  · (go_simp; first | done | with_reducible rfl | rfl | omega | assumption | (simp; omega))
  (try simp only [Act.put, aP, aZ, aS])
  iterate 2 (refine pl_take (v := .bool true) rfl ?_ ?_; (· (go_simp; first | done | with_reducible rfl | rfl | omega | assumption | (simp; omega))); (try simp only [Act.put, aP, aZ, aS]))
  iterate 4 (refine pl_take (v := ?_) (by kernel_rfl) ?_ ?_; rotate_left; (· (first | ((with_reducible apply yl_load); assumption; rfl; (repeat (first | with_reducible assumption | ((with_reducible apply Cl.own); exact rfl) | ((with_reducible apply Cl.blkL); exact rfl) | with_reducible apply Cl.cons)); rfl) | (go_simp; first | done | with_reducible rfl | rfl | omega | assumption | (simp; omega)))); (try simp only [Act.put, aP, aZ, aS]))
  refine pl_eff (by kernel_rfl) (fun Kp hKp => ?_)
  go_simp
  (refine (entries12_spec es es true (by simp) he (by assumption) ((SlV.mono EntV.mono).pick (by (repeat (first | exact Pick.nil _ | exact Pick.tail _ | exact Out.here _ | apply Out.there | apply Pick.cons | apply Pick.drop))) hE) ((SlV.mono EntV.mono).pick (by (repeat (first | exact Pick.nil _ | exact Pick.tail _ | exact Out.here _ | apply Out.there | apply Pick.cons | apply Pick.drop))) hE')).mono ?_; rintro e22 w22 ⟨rfl, hs22⟩)
  (try go_wp2_with fail)
  refine hKp.out _ _ ?_
  clear hKp Kp
  (try simp only [Act.put, aP, aZ, aS])
  iterate 2 (refine pl_take (v := .bool true) rfl ?_ ?_; (· (go_simp; first | done | with_reducible rfl | rfl | omega | assumption | (simp; omega))); (try simp only [Act.put, aP, aZ, aS]))
  refine pl_done ?_
  refine hK1.out _ _ ?_
  (try clear hK1 K1)
  refine wp_ret ?_
  go_ret
  exact ⟨rfl, (by assumption : Sat w0 _ _).pick (by (repeat (first | exact Pick.nil _ | exact Pick.tail _ | exact Out.here _ | apply Out.there | apply Pick.cons | apply Pick.drop)))⟩
end Go.Proofs.Ytcpcdhlfdabbnaa

