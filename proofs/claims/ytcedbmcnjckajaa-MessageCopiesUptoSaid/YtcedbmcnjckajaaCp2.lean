/-
  Messages: Copy.
-/
import Derived.Test.YtcedbmcnjckajaaCp1
namespace Go.Proofs.Ytcedbmcnjckajaa
open Go Go.RowKit Sl Go.Shelf
set_option maxHeartbeats 20000000
set_option maxRecDepth 8000

/-- A message in memory of its own, its entries' data too. -/
def RetCM (w0 : World) (L : List HP) (m : Msg) (e : Ending) (w' : World) : Prop :=
  ∃ (A B C : Option Addr) (ca cb cc : Nat) (zs : List (Ent × Option Addr × Nat)), zs.map (·.1) = m.es ∧ e = .returned (.agg (msgCells m A B C ca cb cc)) ∧
    Sat w0 w' (own 41 4 A ca m.es.length (entsCells zs) :: SatH (zs.map dataOwn) :: own 3 1 B cb m.sv.length (I8 m.sv) :: own 5 1 C cc m.dt.length (B8 m.dt) :: L)

theorem copy_spec {w0 w : World} {L : List HP} {A B C : Option Addr} {ca cb cc : Nat} (kd fr dn tm na nb nc nd : Int) (yes : Bool) (es : List Ent) (sv : List Int) (dt : List UInt8) (ys : List (Ent × Option Addr × Nat)) (hys : ys.map (·.1) = es)
    (he : es.length ≤ 1048576) (hv : sv.length ≤ 1048576) (hd : dt.length ≤ 1048576) (hlen : ∀ x ∈ es, x.d.length ≤ 1048576) (hs : Sat w0 w L)
    (hE : Rd w0 L A es.length 4 (entsCells ys)) (hDt : ∀ y ∈ ys, Rd w0 L y.2.1 y.1.d.length 1 (B8 y.1.d)) (hB : Rd w0 L B sv.length 1 (I8 sv)) (hC : Rd w0 L C dt.length 1 (B8 dt)) :
    Calls Try.prog 15 #[.agg #[.int .i64 kd, .int .i64 fr, .int .i64 dn, .int .i64 tm, .int .i64 na, .int .i64 nb, .int .i64 nc, .int .i64 nd, .bool yes, .slice A es.length ca, .slice B sv.length cb, .slice C dt.length cc]] w (RetCM w0 L ⟨kd, fr, dn, tm, na, nb, nc, nd, yes, es, sv, dt⟩) := by
  have hyl : ys.length = es.length := by rw [← hys, List.length_map]
  have cE : ∀ {w : World} {L : List HP}, Sat w0 w L → Rd w0 L A es.length 4 (entsCells ys) → Calls Try.prog 40 #[.slice A es.length ca] w (fun r w' => ∃ A' c', r = .returned (.slice A' es.length c') ∧ Sat w0 w' (own 41 4 A' c' es.length (entsCells ys) :: L)) := fun hs h => by
    have := clone_ents (c := ca) ys (by omega) hs (by rw [hyl]; exact h)
    rwa [hyl] at this
  go_enter Try.func15, Try.ntmps15
  refine wk_seq (fun K0 hK0 => ?_)
  refine wk_reg ?_
  refine pl_eff rfl (fun Kp hKp => ?_)
  ((with_reducible apply st_box); assumption; (go_simp; rfl); intro b1 w1 hs1; simp only [Value.cells] at hs1)
  refine hKp.out _ _ ?_
  clear hKp Kp
  (try simp only [Act.put, aP, aZ, aS])
  refine pl_eff rfl (fun Kp hKp => ?_)
  ((with_reducible apply st_alloc); assumption; intro b2 w2 hs2; simp only [Value.cells] at hs2)
  refine hKp.out _ _ ?_
  clear hKp Kp
  (try simp only [Act.put, aP, aZ, aS])
  refine pl_done ?_
  refine hK0.out _ _ ?_
  (try clear hK0 K0)
  refine wk_seq (fun K1 hK1 => ?_)
  -- at a cut
  go_cut [] from 5 to 12 (fun w => ∃ A7 c7 A10 c10, Sat w0 w (blk b1 (.cells #[.int .i64 kd, .int .i64 fr, .int .i64 dn, .int .i64 tm, .int .i64 na, .int .i64 nb, .int .i64 nc, .int .i64 nd, .bool yes, .slice A es.length ca, .slice A7 sv.length c7, .slice A10 dt.length c10] 27 (0, 0)) :: blk b2 (.cells #[.int .i64 0, .int .i64 0, .int .i64 0, .int .i64 0, .int .i64 0, .int .i64 0, .int .i64 0, .int .i64 0, .bool false, .slice none 0 0, .slice none 0 0, .slice none 0 0] 27 (0, 0)) :: own 3 1 A7 c7 sv.length (I8 sv) :: own 5 1 A10 c10 dt.length (B8 dt) :: L))
  case first =>
    refine rg_start2 (L := L) rfl (by assumption) (by (repeat (first | exact Pick.nil _ | with_reducible exact Pick.tail _ | with_reducible exact Out.here _ | apply Out.there | apply Pick.cons | apply Pick.drop))) (fun wr1 hsr1 hsq1 => ?_)
    have hsz1 := hsr1
    refine rg_take (i := 0) (v := ?_) rfl (by kernel_rfl) (by kernel_rfl) (by kernel_rfl) (fun _ _ _ h => h) rfl (by assumption) ?_ ?_
    rotate_left
    · intro w hSw; (go_simp; first | done | with_reducible rfl | rfl | omega | assumption | (simp; omega))
    (try simp only [Act.put, aP, aZ, aS])
    refine rg_take (i := 3) (v := ?_) rfl (by kernel_rfl) (by kernel_rfl) (by kernel_rfl) (fun _ _ _ h => h) rfl (by assumption) ?_ ?_
    rotate_left
    · intro w hSw; (go_simp; first | done | with_reducible rfl | rfl | omega | assumption | (simp; omega))
    (try simp only [Act.put, aP, aZ, aS])
    refine rg_two (i := 1) (j := 4) (by kernel_rfl) rfl rfl rfl rfl (fun Kp hKp => ?_) (fun Kp hKp => ?_)
    · ((with_reducible apply st_load); assumption; rfl; (repeat (first | with_reducible assumption | ((with_reducible apply Cl.own); exact rfl) | ((with_reducible apply Cl.blkL); exact rfl) | with_reducible apply Cl.cons)))
      refine rg_back (hK := hKp) ?_ (fun hsk6 => ?_)
      · (first | assumption | (apply Sat.drew; assumption) | (apply Sat.pick; assumption; (repeat (first | exact Pick.nil _ | with_reducible exact Pick.tail _ | with_reducible exact Out.here _ | apply Out.there | apply Pick.cons | apply Pick.drop))))
      clear hKp Kp
      have hsz6 := hsr1
      (try simp only [Act.put, aP, aZ, aS])
      refine rg_two (i := 2) (j := 4) (by kernel_rfl) rfl rfl rfl rfl (fun Kp hKp => ?_) (fun Kp hKp => ?_)
      · go_simp
        (refine (clone_ints sv (by omega) (by assumption) (by (repeat (first | with_reducible assumption | with_reducible exact Rd.own | with_reducible exact Rd.nil | with_reducible apply Rd.cons)))).mono ?_; rintro e7 w7 ⟨A7, c7, rfl, hs7⟩)
        (try go_wp2_with fail)
        refine rg_back (hK := hKp) ?_ (fun hsk7 => ?_)
        · (first | assumption | (apply Sat.drew; assumption) | (apply Sat.pick; assumption; (repeat (first | exact Pick.nil _ | with_reducible exact Pick.tail _ | with_reducible exact Out.here _ | apply Out.there | apply Pick.cons | apply Pick.drop))))
        clear hKp Kp
        have hsz7 := hs7
        (try simp only [Act.put, aP, aZ, aS])
        refine rg_one (i := 4) (by kernel_rfl) rfl rfl (fun Kp hKp => ?_)
        ((with_reducible apply st_load); assumption; rfl; (repeat (first | with_reducible assumption | ((with_reducible apply Cl.own); exact rfl) | ((with_reducible apply Cl.blkL); exact rfl) | with_reducible apply Cl.cons)))
        refine rg_back (hK := hKp) ?_ (fun hsk9 => ?_)
        · (first | assumption | (apply Sat.drew; assumption) | (apply Sat.pick; assumption; (repeat (first | exact Pick.nil _ | with_reducible exact Pick.tail _ | with_reducible exact Out.here _ | apply Out.there | apply Pick.cons | apply Pick.drop))))
        clear hKp Kp
        have hsz9 := hs7
        (try simp only [Act.put, aP, aZ, aS])
        refine rg_take (i := 6) (v := ?_) rfl (by kernel_rfl) (by kernel_rfl) (by kernel_rfl) (fun _ _ _ h => h) rfl (by assumption) ?_ ?_
        rotate_left
        · intro w hSw; (go_simp; first | done | with_reducible rfl | rfl | omega | assumption | (simp; omega))
        (try simp only [Act.put, aP, aZ, aS])
        refine rg_one (i := 5) (by kernel_rfl) rfl rfl (fun Kp hKp => ?_)
        go_simp
        (refine (clone_spec dt (by omega) (by assumption) (by (repeat (first | with_reducible assumption | with_reducible exact Rd.own | with_reducible exact Rd.nil | with_reducible apply Rd.cons)))).mono ?_; rintro e10 w10 ⟨A10, c10, rfl, hs10⟩)
        (try go_wp2_with fail)
        refine rg_back (hK := hKp) ?_ (fun hsk10 => ?_)
        · (first | assumption | (apply Sat.drew; assumption) | (apply Sat.pick; assumption; (repeat (first | exact Pick.nil _ | with_reducible exact Pick.tail _ | with_reducible exact Out.here _ | apply Out.there | apply Pick.cons | apply Pick.drop))))
        clear hKp Kp
        have hsz10 := hs10
        (try simp only [Act.put, aP, aZ, aS])
        refine rg_one (i := 7) (by kernel_rfl) rfl rfl (fun Kp hKp => ?_)
        (first | ((with_reducible apply st_store1); assumption; rfl; (go_simp; rfl); (repeat (first | with_reducible exact Out.here _ | apply Out.there)); rfl; rfl; simp; intro wr1_7 hsr1_7; (try simp only [aP] at hsr1_7); (try simp only [aS] at hsr1_7); (try simp only [aZ] at hsr1_7)) | ((with_reducible apply st_store_own); assumption; rfl; (go_simp; rfl); (repeat (first | with_reducible exact Out.here _ | apply Out.there)); rfl; rfl; omega; intro wr1_7 hsr1_7))
        refine rg_back (hK := hKp) ?_ (fun hskr1_7 => ?_)
        · (first | assumption | (apply Sat.drew; assumption) | (apply Sat.pick; assumption; (repeat (first | exact Pick.nil _ | with_reducible exact Pick.tail _ | with_reducible exact Out.here _ | apply Out.there | apply Pick.cons | apply Pick.drop))))
        clear hKp Kp
        have hszr1_7 := hsr1_7
        (try dsimp only [Act.put])
        refine rg_take (i := 8) (v := ?_) rfl (by kernel_rfl) (by kernel_rfl) (by kernel_rfl) (fun _ _ _ h => h) rfl (by assumption) ?_ ?_
        rotate_left
        · intro w hSw; (go_simp; first | done | with_reducible rfl | rfl | omega | assumption | (simp; omega))
        (try simp only [Act.put, aP, aZ, aS])
        refine rg_one (i := 9) (by kernel_rfl) rfl rfl (fun Kp hKp => ?_)
        (first | ((with_reducible apply st_store1); assumption; rfl; (go_simp; rfl); (repeat (first | with_reducible exact Out.here _ | apply Out.there)); rfl; rfl; simp; intro wr1_9 hsr1_9; (try simp only [aP] at hsr1_9); (try simp only [aS] at hsr1_9); (try simp only [aZ] at hsr1_9)) | ((with_reducible apply st_store_own); assumption; rfl; (go_simp; rfl); (repeat (first | with_reducible exact Out.here _ | apply Out.there)); rfl; rfl; omega; intro wr1_9 hsr1_9))
        refine rg_back (hK := hKp) ?_ (fun hskr1_9 => ?_)
        · (first | assumption | (apply Sat.drew; assumption) | (apply Sat.pick; assumption; (repeat (first | exact Pick.nil _ | with_reducible exact Pick.tail _ | with_reducible exact Out.here _ | apply Out.there | apply Pick.cons | apply Pick.drop))))
        clear hKp Kp
        have hszr1_9 := hsr1_9
        (try dsimp only [Act.put])
        refine rg_done (by kernel_rfl) ?_
        refine (by assumption : ∀ a' w', Met _ a' w' → _) _ _ ?_
        go_meet
        case rel => exact ⟨_, _, _, _, (by assumption : Sat w0 _ _).pick (by (repeat (first | exact Pick.nil _ | exact Pick.tail _ | exact Out.here _ | apply Out.there | apply Pick.cons | apply Pick.drop)))⟩
      · ((with_reducible apply st_load); assumption; rfl; (repeat (first | with_reducible assumption | ((with_reducible apply Cl.own); exact rfl) | ((with_reducible apply Cl.blkL); exact rfl) | with_reducible apply Cl.cons)))
        refine rg_back (hK := hKp) ?_ (fun hsk9 => ?_)
        · (first | assumption | (apply Sat.drew; assumption) | (apply Sat.pick; assumption; (repeat (first | exact Pick.nil _ | with_reducible exact Pick.tail _ | with_reducible exact Out.here _ | apply Out.there | apply Pick.cons | apply Pick.drop))))
        clear hKp Kp
        have hsz9 := hsr1
        (try simp only [Act.put, aP, aZ, aS])
        refine rg_one (i := 2) (by kernel_rfl) rfl rfl (fun Kp hKp => ?_)
        go_simp
        (refine (clone_ints sv (by omega) (by assumption) (by (repeat (first | with_reducible assumption | with_reducible exact Rd.own | with_reducible exact Rd.nil | with_reducible apply Rd.cons)))).mono ?_; rintro e7 w7 ⟨A7, c7, rfl, hs7⟩)
        (try go_wp2_with fail)
        refine rg_back (hK := hKp) ?_ (fun hsk7 => ?_)
        · (first | assumption | (apply Sat.drew; assumption) | (apply Sat.pick; assumption; (repeat (first | exact Pick.nil _ | with_reducible exact Pick.tail _ | with_reducible exact Out.here _ | apply Out.there | apply Pick.cons | apply Pick.drop))))
        clear hKp Kp
        have hsz7 := hs7
        (try simp only [Act.put, aP, aZ, aS])
        refine rg_take (i := 6) (v := ?_) rfl (by kernel_rfl) (by kernel_rfl) (by kernel_rfl) (fun _ _ _ h => h) rfl (by assumption) ?_ ?_
        rotate_left
        · intro w hSw; (go_simp; first | done | with_reducible rfl | rfl | omega | assumption | (simp; omega))
        (try simp only [Act.put, aP, aZ, aS])
        refine rg_one (i := 5) (by kernel_rfl) rfl rfl (fun Kp hKp => ?_)
        go_simp
        (refine (clone_spec dt (by omega) (by assumption) (by (repeat (first | with_reducible assumption | with_reducible exact Rd.own | with_reducible exact Rd.nil | with_reducible apply Rd.cons)))).mono ?_; rintro e10 w10 ⟨A10, c10, rfl, hs10⟩)
        (try go_wp2_with fail)
        refine rg_back (hK := hKp) ?_ (fun hsk10 => ?_)
        · (first | assumption | (apply Sat.drew; assumption) | (apply Sat.pick; assumption; (repeat (first | exact Pick.nil _ | with_reducible exact Pick.tail _ | with_reducible exact Out.here _ | apply Out.there | apply Pick.cons | apply Pick.drop))))
        clear hKp Kp
        have hsz10 := hs10
        (try simp only [Act.put, aP, aZ, aS])
        refine rg_one (i := 7) (by kernel_rfl) rfl rfl (fun Kp hKp => ?_)
        (first | ((with_reducible apply st_store1); assumption; rfl; (go_simp; rfl); (repeat (first | with_reducible exact Out.here _ | apply Out.there)); rfl; rfl; simp; intro wr1_7 hsr1_7; (try simp only [aP] at hsr1_7); (try simp only [aS] at hsr1_7); (try simp only [aZ] at hsr1_7)) | ((with_reducible apply st_store_own); assumption; rfl; (go_simp; rfl); (repeat (first | with_reducible exact Out.here _ | apply Out.there)); rfl; rfl; omega; intro wr1_7 hsr1_7))
        refine rg_back (hK := hKp) ?_ (fun hskr1_7 => ?_)
        · (first | assumption | (apply Sat.drew; assumption) | (apply Sat.pick; assumption; (repeat (first | exact Pick.nil _ | with_reducible exact Pick.tail _ | with_reducible exact Out.here _ | apply Out.there | apply Pick.cons | apply Pick.drop))))
        clear hKp Kp
        have hszr1_7 := hsr1_7
        (try dsimp only [Act.put])
        refine rg_take (i := 8) (v := ?_) rfl (by kernel_rfl) (by kernel_rfl) (by kernel_rfl) (fun _ _ _ h => h) rfl (by assumption) ?_ ?_
        rotate_left
        · intro w hSw; (go_simp; first | done | with_reducible rfl | rfl | omega | assumption | (simp; omega))
        (try simp only [Act.put, aP, aZ, aS])
        refine rg_one (i := 9) (by kernel_rfl) rfl rfl (fun Kp hKp => ?_)
        (first | ((with_reducible apply st_store1); assumption; rfl; (go_simp; rfl); (repeat (first | with_reducible exact Out.here _ | apply Out.there)); rfl; rfl; simp; intro wr1_9 hsr1_9; (try simp only [aP] at hsr1_9); (try simp only [aS] at hsr1_9); (try simp only [aZ] at hsr1_9)) | ((with_reducible apply st_store_own); assumption; rfl; (go_simp; rfl); (repeat (first | with_reducible exact Out.here _ | apply Out.there)); rfl; rfl; omega; intro wr1_9 hsr1_9))
        refine rg_back (hK := hKp) ?_ (fun hskr1_9 => ?_)
        · (first | assumption | (apply Sat.drew; assumption) | (apply Sat.pick; assumption; (repeat (first | exact Pick.nil _ | with_reducible exact Pick.tail _ | with_reducible exact Out.here _ | apply Out.there | apply Pick.cons | apply Pick.drop))))
        clear hKp Kp
        have hszr1_9 := hsr1_9
        (try dsimp only [Act.put])
        refine rg_done (by kernel_rfl) ?_
        refine (by assumption : ∀ a' w', Met _ a' w' → _) _ _ ?_
        go_meet
        case rel => exact ⟨_, _, _, _, (by assumption : Sat w0 _ _).pick (by (repeat (first | exact Pick.nil _ | exact Pick.tail _ | exact Out.here _ | apply Out.there | apply Pick.cons | apply Pick.drop)))⟩
    · ((with_reducible apply st_load); assumption; rfl; (repeat (first | with_reducible assumption | ((with_reducible apply Cl.own); exact rfl) | ((with_reducible apply Cl.blkL); exact rfl) | with_reducible apply Cl.cons)))
      refine rg_back (hK := hKp) ?_ (fun hsk9 => ?_)
      · (first | assumption | (apply Sat.drew; assumption) | (apply Sat.pick; assumption; (repeat (first | exact Pick.nil _ | with_reducible exact Pick.tail _ | with_reducible exact Out.here _ | apply Out.there | apply Pick.cons | apply Pick.drop))))
      clear hKp Kp
      have hsz9 := hsr1
      (try simp only [Act.put, aP, aZ, aS])
      refine rg_one (i := 1) (by kernel_rfl) rfl rfl (fun Kp hKp => ?_)
      ((with_reducible apply st_load); assumption; rfl; (repeat (first | with_reducible assumption | ((with_reducible apply Cl.own); exact rfl) | ((with_reducible apply Cl.blkL); exact rfl) | with_reducible apply Cl.cons)))
      refine rg_back (hK := hKp) ?_ (fun hsk6 => ?_)
      · (first | assumption | (apply Sat.drew; assumption) | (apply Sat.pick; assumption; (repeat (first | exact Pick.nil _ | with_reducible exact Pick.tail _ | with_reducible exact Out.here _ | apply Out.there | apply Pick.cons | apply Pick.drop))))
      clear hKp Kp
      have hsz6 := hsr1
      (try simp only [Act.put, aP, aZ, aS])
      refine rg_one (i := 2) (by kernel_rfl) rfl rfl (fun Kp hKp => ?_)
      go_simp
      (refine (clone_ints sv (by omega) (by assumption) (by (repeat (first | with_reducible assumption | with_reducible exact Rd.own | with_reducible exact Rd.nil | with_reducible apply Rd.cons)))).mono ?_; rintro e7 w7 ⟨A7, c7, rfl, hs7⟩)
      (try go_wp2_with fail)
      refine rg_back (hK := hKp) ?_ (fun hsk7 => ?_)
      · (first | assumption | (apply Sat.drew; assumption) | (apply Sat.pick; assumption; (repeat (first | exact Pick.nil _ | with_reducible exact Pick.tail _ | with_reducible exact Out.here _ | apply Out.there | apply Pick.cons | apply Pick.drop))))
      clear hKp Kp
      have hsz7 := hs7
      (try simp only [Act.put, aP, aZ, aS])
      refine rg_take (i := 6) (v := ?_) rfl (by kernel_rfl) (by kernel_rfl) (by kernel_rfl) (fun _ _ _ h => h) rfl (by assumption) ?_ ?_
      rotate_left
      · intro w hSw; (go_simp; first | done | with_reducible rfl | rfl | omega | assumption | (simp; omega))
      (try simp only [Act.put, aP, aZ, aS])
      refine rg_one (i := 5) (by kernel_rfl) rfl rfl (fun Kp hKp => ?_)
      go_simp
      (refine (clone_spec dt (by omega) (by assumption) (by (repeat (first | with_reducible assumption | with_reducible exact Rd.own | with_reducible exact Rd.nil | with_reducible apply Rd.cons)))).mono ?_; rintro e10 w10 ⟨A10, c10, rfl, hs10⟩)
      (try go_wp2_with fail)
      refine rg_back (hK := hKp) ?_ (fun hsk10 => ?_)
      · (first | assumption | (apply Sat.drew; assumption) | (apply Sat.pick; assumption; (repeat (first | exact Pick.nil _ | with_reducible exact Pick.tail _ | with_reducible exact Out.here _ | apply Out.there | apply Pick.cons | apply Pick.drop))))
      clear hKp Kp
      have hsz10 := hs10
      (try simp only [Act.put, aP, aZ, aS])
      refine rg_one (i := 7) (by kernel_rfl) rfl rfl (fun Kp hKp => ?_)
      (first | ((with_reducible apply st_store1); assumption; rfl; (go_simp; rfl); (repeat (first | with_reducible exact Out.here _ | apply Out.there)); rfl; rfl; simp; intro wr1_7 hsr1_7; (try simp only [aP] at hsr1_7); (try simp only [aS] at hsr1_7); (try simp only [aZ] at hsr1_7)) | ((with_reducible apply st_store_own); assumption; rfl; (go_simp; rfl); (repeat (first | with_reducible exact Out.here _ | apply Out.there)); rfl; rfl; omega; intro wr1_7 hsr1_7))
      refine rg_back (hK := hKp) ?_ (fun hskr1_7 => ?_)
      · (first | assumption | (apply Sat.drew; assumption) | (apply Sat.pick; assumption; (repeat (first | exact Pick.nil _ | with_reducible exact Pick.tail _ | with_reducible exact Out.here _ | apply Out.there | apply Pick.cons | apply Pick.drop))))
      clear hKp Kp
      have hszr1_7 := hsr1_7
      (try dsimp only [Act.put])
      refine rg_take (i := 8) (v := ?_) rfl (by kernel_rfl) (by kernel_rfl) (by kernel_rfl) (fun _ _ _ h => h) rfl (by assumption) ?_ ?_
      rotate_left
      · intro w hSw; (go_simp; first | done | with_reducible rfl | rfl | omega | assumption | (simp; omega))
      (try simp only [Act.put, aP, aZ, aS])
      refine rg_one (i := 9) (by kernel_rfl) rfl rfl (fun Kp hKp => ?_)
      (first | ((with_reducible apply st_store1); assumption; rfl; (go_simp; rfl); (repeat (first | with_reducible exact Out.here _ | apply Out.there)); rfl; rfl; simp; intro wr1_9 hsr1_9; (try simp only [aP] at hsr1_9); (try simp only [aS] at hsr1_9); (try simp only [aZ] at hsr1_9)) | ((with_reducible apply st_store_own); assumption; rfl; (go_simp; rfl); (repeat (first | with_reducible exact Out.here _ | apply Out.there)); rfl; rfl; omega; intro wr1_9 hsr1_9))
      refine rg_back (hK := hKp) ?_ (fun hskr1_9 => ?_)
      · (first | assumption | (apply Sat.drew; assumption) | (apply Sat.pick; assumption; (repeat (first | exact Pick.nil _ | with_reducible exact Pick.tail _ | with_reducible exact Out.here _ | apply Out.there | apply Pick.cons | apply Pick.drop))))
      clear hKp Kp
      have hszr1_9 := hsr1_9
      (try dsimp only [Act.put])
      refine rg_done (by kernel_rfl) ?_
      refine (by assumption : ∀ a' w', Met _ a' w' → _) _ _ ?_
      go_meet
      case rel => exact ⟨_, _, _, _, (by assumption : Sat w0 _ _).pick (by (repeat (first | exact Pick.nil _ | exact Pick.tail _ | exact Out.here _ | apply Out.there | apply Pick.cons | apply Pick.drop)))⟩
  case rest =>
  obtain ⟨A7, c7, A10, c10, hsA⟩ := hcut
  refine hK1.out _ _ ?_
  clear hK1 K1
  refine wk_seq (fun K2 hK2 => ?_)
  refine wk_reg ?_
  iterate 2 (refine pl_take (v := ?_) rfl ?_ ?_; rotate_left; (· (first | ((with_reducible apply yl_load); assumption; rfl; (repeat (first | with_reducible assumption | ((with_reducible apply Cl.own); exact rfl) | ((with_reducible apply Cl.blkL); exact rfl) | with_reducible apply Cl.cons)); rfl) | (go_simp; first | done | with_reducible rfl | rfl | omega | assumption | (simp; omega)))); (try simp only [Act.put, aP, aZ, aS]))
  refine pl_eff rfl (fun Kp hKp => ?_)
  go_simp
  (refine (cE (by assumption) (by (repeat (first | with_reducible assumption | with_reducible exact Rd.own | with_reducible exact Rd.nil | with_reducible apply Rd.cons)))).mono ?_; rintro e15 w15 ⟨A15, c15, rfl, hs15⟩)
  (try go_wp2_with fail)
  refine hKp.out _ _ ?_
  clear hKp Kp
  (try simp only [Act.put, aP, aZ, aS])
  refine pl_take (v := ?_) rfl ?_ ?_
  rotate_left
  · (go_simp; first | done | with_reducible rfl | rfl | omega | assumption | (simp; omega))
  (try simp only [Act.put, aP, aZ, aS])
  refine pl_eff rfl (fun Kp hKp => ?_)
  (first | ((with_reducible apply st_store1); assumption; rfl; (go_simp; rfl); (repeat (first | with_reducible exact Out.here _ | apply Out.there)); rfl; rfl; simp; intro wr2_4 hsr2_4; (try simp only [aP] at hsr2_4); (try simp only [aS] at hsr2_4); (try simp only [aZ] at hsr2_4)) | ((with_reducible apply st_store_own); assumption; rfl; (go_simp; rfl); (repeat (first | with_reducible exact Out.here _ | apply Out.there)); rfl; rfl; omega; intro wr2_4 hsr2_4))
  refine hKp.out _ _ ?_
  clear hKp Kp
  (try dsimp only [Act.put])
  refine pl_done ?_
  refine hK2.out _ _ ?_
  (try clear hK2 K2)
  refine wk_seq (fun K3 hK3 => ?_)
  refine wk_seq (fun K4 hK4 => ?_)
  refine wk_reg ?_
  iterate 4 (refine pl_take (v := ?_) rfl ?_ ?_; rotate_left; (· (first | ((with_reducible apply yl_load); assumption; rfl; (repeat (first | with_reducible assumption | ((with_reducible apply Cl.own); exact rfl) | ((with_reducible apply Cl.blkL); exact rfl) | with_reducible apply Cl.cons)); rfl) | (go_simp; first | done | with_reducible rfl | rfl | omega | assumption | (simp; omega)))); (try simp only [Act.put, aP, aZ, aS]))
  refine pl_done ?_
  refine hK4.out _ _ ?_
  (try clear hK4 K4)
  refine wp_block ?_
  -- at a loop

  have hsB := ((by assumption : Sat w0 _ _).bag_nil)
  go_loopw [20] (fun i wr => ∃ (k : Nat) (l : List (Ent × Option Addr × Nat)), i = .int .i64 k ∧ k ≤ es.length ∧ Hid (l.map (·.1) = es) ∧ Hid (∀ j, k ≤ j → l[j]? = ys[j]?) ∧ Sat w0 wr (own 41 4 A15 c15 es.length (entsCells l) :: SatH ((l.take k).map dataOwn) :: blk b1 (.cells #[.int .i64 kd, .int .i64 fr, .int .i64 dn, .int .i64 tm, .int .i64 na, .int .i64 nb, .int .i64 nc, .int .i64 nd, .bool yes, .slice A15 es.length c15, .slice A7 sv.length c7, .slice A10 dt.length c10] 27 (0, 0)) :: blk b2 (.cells #[.int .i64 0, .int .i64 0, .int .i64 0, .int .i64 0, .int .i64 0, .int .i64 0, .int .i64 0, .int .i64 0, .bool false, .slice none 0 0, .slice none 0 0, .slice none 0 0] 27 (0, 0)) :: own 3 1 A7 c7 sv.length (I8 sv) :: own 5 1 A10 c10 dt.length (B8 dt) :: L)) (fun i _ => es.length - (intOf i).toNat)
  case atStart => exact ⟨0, ys, rfl, Nat.zero_le _, hys, Hid.mk' (fun _ _ => rfl), hsB.pick (by (repeat (first | exact Pick.nil _ | exact Pick.tail _ | exact Out.here _ | apply Out.there | apply Pick.cons | apply Pick.drop)))⟩
  case round =>
    obtain ⟨k, l, rfl, hk, Hl, Hj, hsC⟩ := hrel
    clear hsB
    have hll : l.length = es.length := by rw [← Hl.out, List.length_map]
    by_cases hlt : k < es.length
    · obtain ⟨⟨⟨t, i, q, d⟩, Ax, cx⟩, hx⟩ : ∃ y, l[k]? = some y := ⟨l[k], List.getElem?_eq_getElem (by omega)⟩
      have hmy := List.mem_of_getElem? ((Hj.out k (Nat.le_refl _)).symm.trans hx)
      have hrx := hDt _ hmy
      have hxe : es[k]? = some ⟨t, i, q, d⟩ := by rw [← Hl.out, List.getElem?_map, hx]; rfl
      have hxl := hlen _ (List.mem_of_getElem? hxe)
      simp only at hrx hxl
      obtain ⟨g, rfl⟩ := hsC.own_some (by omega)
      have hrow := (Rd.own (w0 := w0) (L := SatH ((l.take k).map dataOwn) :: blk b1 (.cells #[.int .i64 kd, .int .i64 fr, .int .i64 dn, .int .i64 tm, .int .i64 na, .int .i64 nb, .int .i64 nc, .int .i64 nd, .bool yes, .slice (some ⟨g, 0, none⟩) es.length c15, .slice A7 sv.length c7, .slice A10 dt.length c10] 27 (0, 0)) :: blk b2 (.cells #[.int .i64 0, .int .i64 0, .int .i64 0, .int .i64 0, .int .i64 0, .int .i64 0, .int .i64 0, .int .i64 0, .bool false, .slice none 0 0, .slice none 0 0, .slice none 0 0] 27 (0, 0)) :: own 3 1 A7 c7 sv.length (I8 sv) :: own 5 1 A10 c10 dt.length (B8 dt) :: L) (E := 41) (sz := 4) (A := some ⟨g, 0, none⟩) (c := c15) (n := es.length) (xs := entsCells l)).row_at k hlt
      rw [entsCells_at l k _ hx] at hrow
      simp only [entCells, Nat.zero_add] at hrow
      have i0 : (0 : Int) ≤ (k : Int) := by omega
      have i1 : (k : Int) < (es.length : Int) := by omega
      have hwk : IntKind.i64.wrap ((k : Int) + 1) = (k : Int) + 1 := IntWalk.i64_in _ (by omega)
      have HN : Hid (∀ (A5 : Option Addr) (c5 : Nat), (l.set k (⟨t, i, q, d⟩, A5, c5)).map (·.1) = es ∧ (∀ j, k + 1 ≤ j → (l.set k (⟨t, i, q, d⟩, A5, c5))[j]? = ys[j]?) ∧ (l.set k (⟨t, i, q, d⟩, A5, c5)).take (k + 1) = l.take k ++ [(⟨t, i, q, d⟩, A5, c5)]) := Hid.mk' (fun A5 c5 => by
        refine ⟨?_, fun j hj => ?_, ?_⟩
        · rw [List.map_set, Hl.out]
          apply List.ext_getElem?
          intro j
          rw [List.getElem?_set]
          split
          · rename_i e; subst e; exact hxe.symm
          · rfl
        · rw [List.getElem?_set_ne (by omega)]; exact Hj.out j (by omega)
        · rw [List.take_add_one, List.getElem?_set_self (by omega)]
          simp [List.take_set_of_le])
      have Hset : Hid (∀ (A5 : Option Addr) (c5 : Nat), (entsCells l).set (k * 4 + 3) (.slice A5 d.length c5) = entsCells (l.set k (⟨t, i, q, d⟩, A5, c5))) := Hid.mk' (fun A5 c5 => entsCells_data hx)
      clear hx hxe hmy
      refine wk_seq (fun K5 hK5 => ?_)
      refine wk_reg ?_
      refine pl_take (v := .bool true) rfl ?_ ?_
      · (go_simp; first | done | with_reducible rfl | rfl | omega | assumption | (simp; omega))
      (try simp only [Act.put, aP, aZ, aS])
      refine pl_done ?_
      refine hK5.out _ _ ?_
      (try clear hK5 K5)
      refine wk_seq (fun K6 hK6 => ?_)
      refine wp_cond_true rfl ?_
      refine wp_skip ?_
      refine hK6.out _ _ ?_
      (try clear hK6 K6)
      refine wk_seq (fun K7 hK7 => ?_)
      refine wp_block ?_
      refine wk_seq (fun K8 hK8 => ?_)
      refine wk_reg ?_
      iterate 3 (refine pl_take (v := ?_) rfl ?_ ?_; rotate_left; (· (first | (first | ((with_reducible apply yl_loadAggR); assumption; rfl; (with_reducible assumption); rfl) | ((with_reducible apply yl_loadAggR); assumption; rfl; (simpa using hrow); rfl)) | (go_simp; first | done | with_reducible rfl | rfl | omega | assumption | (simp; omega)))); (try simp only [Act.put, aP, aZ, aS]))
      refine pl_eff rfl (fun Kp hKp => ?_)
      ((with_reducible apply st_alloc); assumption; intro b4 w4 hs4; simp only [Value.cells] at hs4)
      refine hKp.out _ _ ?_
      clear hKp Kp
      (try simp only [Act.put, aP, aZ, aS])
      refine pl_take (v := ?_) rfl ?_ ?_
      rotate_left
      · (go_simp; first | done | with_reducible rfl | rfl | omega | assumption | (simp; omega))
      (try simp only [Act.put, aP, aZ, aS])
      refine pl_eff rfl (fun Kp hKp => ?_)
      (first | ((with_reducible apply st_storeAll); assumption; rfl; (go_simp; rfl); (repeat (first | with_reducible exact Out.here _ | apply Out.there)); rfl; (focus (first | (simp [Value.oneCell']; done) | (simp [Value.cells, Value.oneCell']; done))); rfl; intro wr5_5 hsr5_5; simp only [Value.cells] at hsr5_5) | ((with_reducible apply st_store); assumption; rfl; (go_simp; rfl); (repeat (first | with_reducible exact Out.here _ | apply Out.there)); rfl; (first | (focus (simp [Value.oneCell']; done)) | (simp [Value.cells, Value.oneCell'])); (first | (focus (simp; done)) | (simp [Value.cells])); intro wr5_5 hsr5_5; simp only [upd, Value.cells] at hsr5_5))
      refine hKp.out _ _ ?_
      clear hKp Kp
      (try dsimp only [Act.put])
      refine pl_done ?_
      refine hK8.out _ _ ?_
      (try clear hK8 K8)
      refine rg_start2 (L := blk b1 (.cells #[.int .i64 kd, .int .i64 fr, .int .i64 dn, .int .i64 tm, .int .i64 na, .int .i64 nb, .int .i64 nc, .int .i64 nd, .bool yes, .slice (some ⟨g, 0, none⟩) es.length c15, .slice A7 sv.length c7, .slice A10 dt.length c10] 27 (0, 0)) :: blk b4 (.cells #[.int .i64 t, .int .i64 i, .int .i64 q, .slice Ax d.length cx] 41 (0, 0)) :: L) rfl (by assumption) (by (repeat (first | exact Pick.nil _ | with_reducible exact Pick.tail _ | with_reducible exact Out.here _ | apply Out.there | apply Pick.cons | apply Pick.drop))) (fun wr6 hsr6 hsq6 => ?_)
      have hsz6 := hsr6
      refine rg_take (i := 0) (v := ?_) rfl (by kernel_rfl) (by kernel_rfl) (by kernel_rfl) (fun _ _ _ h => h) rfl (by assumption) ?_ ?_
      rotate_left
      · intro w hSw; (go_simp; first | done | with_reducible rfl | rfl | omega | assumption | (simp; omega))
      (try simp only [Act.put, aP, aZ, aS])
      refine rg_take (i := 1) (v := ?_) rfl (by kernel_rfl) (by kernel_rfl) (by kernel_rfl) (fun _ _ _ h => h) rfl (by assumption) ?_ ?_
      rotate_left
      · intro w hSw; ((with_reducible apply yl_load); assumption; rfl; (repeat (first | with_reducible assumption | ((with_reducible apply Cl.own); exact rfl) | ((with_reducible apply Cl.blkL); exact rfl) | with_reducible apply Cl.cons)); rfl)
      (try simp only [Act.put, aP, aZ, aS])
      refine rg_take (i := 2) (v := ?_) rfl (by kernel_rfl) (by kernel_rfl) (by kernel_rfl) (fun _ _ _ h => h) rfl (by assumption) ?_ ?_
      rotate_left
      · intro w hSw; (go_simp; first | done | with_reducible rfl | rfl | omega | assumption | (simp; omega))
      (try simp only [Act.put, aP, aZ, aS])
      refine rg_take (i := 3) (v := ?_) rfl (by kernel_rfl) (by kernel_rfl) (by kernel_rfl) (fun _ _ _ h => h) rfl (by assumption) ?_ ?_
      rotate_left
      · intro w hSw; (go_simp; first | done | with_reducible rfl | rfl | omega | assumption | (simp; omega))
      (try simp only [Act.put, aP, aZ, aS])
      refine rg_take (i := 4) (v := ?_) rfl (by kernel_rfl) (by kernel_rfl) (by kernel_rfl) (fun _ _ _ h => h) rfl (by assumption) ?_ ?_
      rotate_left
      · intro w hSw; ((with_reducible apply yl_load); assumption; rfl; (repeat (first | with_reducible assumption | ((with_reducible apply Cl.own); exact rfl) | ((with_reducible apply Cl.blkL); exact rfl) | with_reducible apply Cl.cons)); rfl)
      (try simp only [Act.put, aP, aZ, aS])
      refine rg_one (i := 5) (by kernel_rfl) rfl rfl (fun Kp hKp => ?_)
      go_simp
      (refine (clone_spec d (by omega) (by assumption) (by (repeat (first | with_reducible assumption | with_reducible exact Rd.own | with_reducible exact Rd.nil | with_reducible apply Rd.cons)))).mono ?_; rintro e30 w30 ⟨A30, c30, rfl, hs30⟩)
      (try go_wp2_with fail)
      refine rg_back (hK := hKp) ?_ (fun hsk30 => ?_)
      · (first | assumption | (apply Sat.drew; assumption) | (apply Sat.pick; assumption; (repeat (first | exact Pick.nil _ | with_reducible exact Pick.tail _ | with_reducible exact Out.here _ | apply Out.there | apply Pick.cons | apply Pick.drop))))
      clear hKp Kp
      have hsz30 := hs30
      (try simp only [Act.put, aP, aZ, aS])
      refine rg_take (i := 6) (v := ?_) rfl (by kernel_rfl) (by kernel_rfl) (by kernel_rfl) (fun _ _ _ h => h) rfl (by assumption) ?_ ?_
      rotate_left
      · intro w hSw; (go_simp; first | done | with_reducible rfl | rfl | omega | assumption | (simp; omega))
      (try simp only [Act.put, aP, aZ, aS])
      refine rg_take (i := 7) (v := ?_) rfl (by kernel_rfl) (by kernel_rfl) (by kernel_rfl) (fun _ _ _ h => h) rfl (by assumption) ?_ ?_
      rotate_left
      · intro w hSw; (go_simp; first | done | with_reducible rfl | rfl | omega | assumption | (simp; omega))
      (try simp only [Act.put, aP, aZ, aS])
      refine rg_one (i := 8) (by kernel_rfl) rfl rfl (fun Kp hKp => ?_)
      ((with_reducible apply st_store_cell (sz := 4)); assumption; rfl; (go_simp; rfl); (repeat (first | with_reducible exact Out.here _ | apply Out.there)); rfl; rfl; omega; intro wr6_8 hsr6_8)
      refine rg_back (hK := hKp) ?_ (fun hskr6_8 => ?_)
      · (first | assumption | (apply Sat.drew; assumption) | (apply Sat.pick; assumption; (repeat (first | exact Pick.nil _ | with_reducible exact Pick.tail _ | with_reducible exact Out.here _ | apply Out.there | apply Pick.cons | apply Pick.drop))))
      clear hKp Kp
      have hszr6_8 := hsr6_8
      (try dsimp only [Act.put])
      refine rg_done (by kernel_rfl) ?_
      refine hK7.out _ _ ?_
      (try clear hK7 K7)
      refine wk_reg ?_
      iterate 2 (refine pl_take (v := ?_) rfl ?_ ?_; rotate_left; (· (go_simp; first | done | with_reducible rfl | rfl | omega | assumption | (simp; omega))); (try simp only [Act.put, aP, aZ, aS]))
      refine pl_done ?_
      dsimp only [Exit.then]
      go_roundw
      case rel => (refine ⟨k + 1, l.set k (⟨t, i, q, d⟩, A30, c30), by go_num, by omega, (HN.out A30 c30).1, (HN.out A30 c30).2.1, ?_⟩; rw [(HN.out A30 c30).2.2, ← Hset.out A30 c30, List.map_append]; refine Sat.bag_snoc2 (p := dataOwn (⟨t, i, q, d⟩, A30, c30)) ?_; exact (by assumption : Sat w0 _ _).pick (by (repeat (first | exact Pick.nil _ | exact Pick.tail _ | exact Out.here _ | apply Out.there | apply Pick.cons | apply Pick.drop))))
      case measure => simp [intOf]; omega
    · obtain rfl : k = es.length := by omega
      have e1 : l.take es.length = l := by rw [← hll]; exact List.take_length
      rw [e1] at hsC
      refine wk_seq (fun K5 hK5 => ?_)
      refine wk_reg ?_
      refine pl_take (v := .bool false) rfl ?_ ?_
      · (go_simp; first | done | with_reducible rfl | rfl | omega | assumption | (simp; omega))
      (try simp only [Act.put, aP, aZ, aS])
      refine pl_done ?_
      refine hK5.out _ _ ?_
      (try clear hK5 K5)
      refine wk_seq (fun K6 hK6 => ?_)
      refine wp_cond_false rfl ?_
      refine wp_exit ?_
      refine hK3.out _ _ ?_
      (try clear hK3 K3)
      refine wk_seq (fun K9 hK9 => ?_)
      refine wk_reg ?_
      refine pl_take (v := ?_) rfl ?_ ?_
      rotate_left
      · (first | ((with_reducible apply yl_loadAgg); assumption; rfl; (repeat (first | with_reducible exact Out.here _ | apply Out.there)); (simp); rfl; rfl) | ((with_reducible apply yl_loadAggR); assumption; rfl; (repeat (first | with_reducible assumption | with_reducible exact Rd.own | with_reducible exact Rd.nil | with_reducible apply Rd.cons)); rfl))
      (try simp only [Act.put, aP, aZ, aS])
      refine pl_eff rfl (fun Kp hKp => ?_)
      (first | ((with_reducible apply st_storeAll); assumption; rfl; (go_simp; rfl); (repeat (first | with_reducible exact Out.here _ | apply Out.there)); rfl; (focus (first | (simp [Value.oneCell']; done) | (simp [Value.cells, Value.oneCell']; done))); rfl; intro wr8_1 hsr8_1; simp only [Value.cells] at hsr8_1) | ((with_reducible apply st_store); assumption; rfl; (go_simp; rfl); (repeat (first | with_reducible exact Out.here _ | apply Out.there)); rfl; (first | (focus (simp [Value.oneCell']; done)) | (simp [Value.cells, Value.oneCell'])); (first | (focus (simp; done)) | (simp [Value.cells])); intro wr8_1 hsr8_1; simp only [upd, Value.cells] at hsr8_1))
      refine hKp.out _ _ ?_
      clear hKp Kp
      (try dsimp only [Act.put])
      refine pl_done ?_
      refine hK9.out _ _ ?_
      (try clear hK9 K9)
      refine wp_ret ?_
      ((try simp only [Exit.inBlock, Exit.then]); refine retC1 rfl rfl (by assumption) (by (repeat (first | exact Out.here _ | apply Out.there))) (by simp) rfl rfl ?_)
      exact ⟨_, _, _, _, _, _, l, Hl.out, rfl, (by assumption : Sat w0 _ _).pick (by (repeat (first | exact Pick.nil _ | exact Pick.tail _ | exact Out.here _ | apply Out.there | apply Pick.cons | apply Pick.drop)))⟩
end Go.Proofs.Ytcedbmcnjckajaa
