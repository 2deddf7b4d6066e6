/-
  Messages: demand, fields, right, bytes of the program.
-/
import Derived.Test.YtcedbmcnjckajaaMsg1
import Derived.WalkLawsBesides
import Derived.IntWalk
namespace Go.Proofs.Ytcedbmcnjckajaa
open Go Go.RowKit Sl Go.Shelf
set_option maxHeartbeats 1000000
set_option maxRecDepth 8000

/-- What the program gives up with. -/
def quitV (e : Int) : List PanicEntry := [{ v := .iface 29 (.int .i64 e), recovered := false }]

theorem demand_ok {w : World} (e : Int) : Calls Try.prog 26 #[.bool true, .int .i64 e] w fun r w' => r = .returned (.tuple #[]) ∧ w = w' := by
  go_enter Try.func26, Try.ntmps26
  refine wk_seq (fun K0 hK0 => ?_)
  refine wk_reg ?_
  refine pl_take (v := .bool true) rfl ?_ ?_
  · (go_simp; first | done | with_reducible rfl | rfl | omega | assumption | (simp; omega))
  (try simp only [Act.put, aP, aZ, aS])
  refine pl_take (v := .bool false) rfl ?_ ?_
  · (go_simp; first | done | with_reducible rfl | rfl | omega | assumption | (simp; omega))
  (try simp only [Act.put, aP, aZ, aS])
  refine pl_done ?_
  refine hK0.out _ _ ?_
  (try clear hK0 K0)
  refine wp_cond_false rfl ?_
  refine wp_skip ?_
  -- the end
  go_end0
  exact ⟨rfl, rfl⟩

theorem demand_bad {w : World} (e : Int) : Calls Try.prog 26 #[.bool false, .int .i64 e] w fun r w' => r = .panicked (quitV e) ∧ w = w' := by
  go_enter Try.func26, Try.ntmps26
  refine wk_seq (fun K0 hK0 => ?_)
  refine wk_reg ?_
  refine pl_take (v := .bool false) rfl ?_ ?_
  · (go_simp; first | done | with_reducible rfl | rfl | omega | assumption | (simp; omega))
  (try simp only [Act.put, aP, aZ, aS])
  refine pl_take (v := .bool true) rfl ?_ ?_
  · (go_simp; first | done | with_reducible rfl | rfl | omega | assumption | (simp; omega))
  (try simp only [Act.put, aP, aZ, aS])
  refine pl_done ?_
  refine hK0.out _ _ ?_
  (try clear hK0 K0)
  refine wp_cond_true rfl ?_
  refine wk_reg ?_
  iterate 2 (refine pl_take (v := ?_) rfl ?_ ?_; rotate_left; (· (go_simp; first | done | with_reducible rfl | rfl | omega | assumption | (simp; omega))); (try simp only [Act.put, aP, aZ, aS]))
  refine pl_eff rfl (fun Kp hKp => ?_)
  go_simp
  -- it panics
  exact ⟨rfl, rfl, rfl⟩

/-- Pointers to the eight numbers of a message at p. -/
def ptrs (p : Nat) : Array Value := #[.pointer (some ⟨p, 0, none⟩), .pointer (some ⟨p, 1, none⟩), .pointer (some ⟨p, 2, none⟩), .pointer (some ⟨p, 3, none⟩), .pointer (some ⟨p, 4, none⟩), .pointer (some ⟨p, 5, none⟩), .pointer (some ⟨p, 6, none⟩), .pointer (some ⟨p, 7, none⟩)]

theorem fields_spec {w0 w : World} {L : List HP} {p : Nat} (hs : Sat w0 w L) :
    Calls Try.prog 23 #[.pointer (some ⟨p, 0, none⟩)] w fun r w' => r = .returned (.agg #[.pointer (some ⟨p, 0, none⟩), .pointer (some ⟨p, 1, none⟩), .pointer (some ⟨p, 2, none⟩), .pointer (some ⟨p, 3, none⟩), .pointer (some ⟨p, 4, none⟩), .pointer (some ⟨p, 5, none⟩), .pointer (some ⟨p, 6, none⟩), .pointer (some ⟨p, 7, none⟩)]) ∧ Sat w0 w' L := by
  go_enter Try.func23, Try.ntmps23
  refine wk_seq (fun K0 hK0 => ?_)
  refine wk_reg ?_
  refine pl_eff rfl (fun Kp hKp => ?_)
  ((with_reducible apply st_alloc); assumption; intro b2 w2 hs2; simp only [Value.cells] at hs2)
  refine hKp.out _ _ ?_
  clear hKp Kp
  (try simp only [Act.put, aP, aZ, aS])
  refine pl_done ?_
  refine hK0.out _ _ ?_
  (try clear hK0 K0)
  refine wk_seq (fun K1 hK1 => ?_)
  refine rg_start2 (L := L) rfl (by assumption) (by (repeat (first | exact Pick.nil _ | with_reducible exact Pick.tail _ | with_reducible exact Out.here _ | apply Out.there | apply Pick.cons | apply Pick.drop))) (fun wr1 hsr1 hsq1 => ?_)
  have hsz1 := hsr1
  refine rg_take (i := 0) (v := ?_) rfl (by kernel_rfl) (by kernel_rfl) (by kernel_rfl) (fun _ _ _ h => h) rfl (by assumption) ?_ ?_
  rotate_left
  · intro w hSw; (go_simp; first | done | with_reducible rfl | rfl | omega | assumption | (simp; omega))
  (try simp only [Act.put, aP, aZ, aS])
  refine rg_take (i := 1) (v := ?_) rfl (by kernel_rfl) (by kernel_rfl) (by kernel_rfl) (fun _ _ _ h => h) rfl (by assumption) ?_ ?_
  rotate_left
  · intro w hSw; (go_simp; first | done | with_reducible rfl | rfl | omega | assumption | (simp; omega))
  (try simp only [Act.put, aP, aZ, aS])
  refine rg_take (i := 2) (v := ?_) rfl (by kernel_rfl) (by kernel_rfl) (by kernel_rfl) (fun _ _ _ h => h) rfl (by assumption) ?_ ?_
  rotate_left
  · intro w hSw; (go_simp; first | done | with_reducible rfl | rfl | omega | assumption | (simp; omega))
  (try simp only [Act.put, aP, aZ, aS])
  refine rg_take (i := 3) (v := ?_) rfl (by kernel_rfl) (by kernel_rfl) (by kernel_rfl) (fun _ _ _ h => h) rfl (by assumption) ?_ ?_
  rotate_left
  · intro w hSw; (go_simp; first | done | with_reducible rfl | rfl | omega | assumption | (simp; omega))
  (try simp only [Act.put, aP, aZ, aS])
  refine rg_take (i := 4) (v := ?_) rfl (by kernel_rfl) (by kernel_rfl) (by kernel_rfl) (fun _ _ _ h => h) rfl (by assumption) ?_ ?_
  rotate_left
  · intro w hSw; (go_simp; first | done | with_reducible rfl | rfl | omega | assumption | (simp; omega))
  (try simp only [Act.put, aP, aZ, aS])
  refine rg_take (i := 5) (v := ?_) rfl (by kernel_rfl) (by kernel_rfl) (by kernel_rfl) (fun _ _ _ h => h) rfl (by assumption) ?_ ?_
  rotate_left
  · intro w hSw; (go_simp; first | done | with_reducible rfl | rfl | omega | assumption | (simp; omega))
  (try simp only [Act.put, aP, aZ, aS])
  refine rg_take (i := 6) (v := ?_) rfl (by kernel_rfl) (by kernel_rfl) (by kernel_rfl) (fun _ _ _ h => h) rfl (by assumption) ?_ ?_
  rotate_left
  · intro w hSw; (go_simp; first | done | with_reducible rfl | rfl | omega | assumption | (simp; omega))
  (try simp only [Act.put, aP, aZ, aS])
  refine rg_take (i := 7) (v := ?_) rfl (by kernel_rfl) (by kernel_rfl) (by kernel_rfl) (fun _ _ _ h => h) rfl (by assumption) ?_ ?_
  rotate_left
  · intro w hSw; (go_simp; first | done | with_reducible rfl | rfl | omega | assumption | (simp; omega))
  (try simp only [Act.put, aP, aZ, aS])
  refine rg_take (i := 8) (v := ?_) rfl (by kernel_rfl) (by kernel_rfl) (by kernel_rfl) (fun _ _ _ h => h) rfl (by assumption) ?_ ?_
  rotate_left
  · intro w hSw; (go_simp; first | done | with_reducible rfl | rfl | omega | assumption | (simp; omega))
  (try simp only [Act.put, aP, aZ, aS])
  refine rg_take (i := 9) (v := ?_) rfl (by kernel_rfl) (by kernel_rfl) (by kernel_rfl) (fun _ _ _ h => h) rfl (by assumption) ?_ ?_
  rotate_left
  · intro w hSw; (go_simp; first | done | with_reducible rfl | rfl | omega | assumption | (simp; omega))
  (try simp only [Act.put, aP, aZ, aS])
  refine rg_take (i := 10) (v := ?_) rfl (by kernel_rfl) (by kernel_rfl) (by kernel_rfl) (fun _ _ _ h => h) rfl (by assumption) ?_ ?_
  rotate_left
  · intro w hSw; (go_simp; first | done | with_reducible rfl | rfl | omega | assumption | (simp; omega))
  (try simp only [Act.put, aP, aZ, aS])
  refine rg_take (i := 11) (v := ?_) rfl (by kernel_rfl) (by kernel_rfl) (by kernel_rfl) (fun _ _ _ h => h) rfl (by assumption) ?_ ?_
  rotate_left
  · intro w hSw; (go_simp; first | done | with_reducible rfl | rfl | omega | assumption | (simp; omega))
  (try simp only [Act.put, aP, aZ, aS])
  refine rg_take (i := 12) (v := ?_) rfl (by kernel_rfl) (by kernel_rfl) (by kernel_rfl) (fun _ _ _ h => h) rfl (by assumption) ?_ ?_
  rotate_left
  · intro w hSw; (go_simp; first | done | with_reducible rfl | rfl | omega | assumption | (simp; omega))
  (try simp only [Act.put, aP, aZ, aS])
  refine rg_take (i := 13) (v := ?_) rfl (by kernel_rfl) (by kernel_rfl) (by kernel_rfl) (fun _ _ _ h => h) rfl (by assumption) ?_ ?_
  rotate_left
  · intro w hSw; (go_simp; first | done | with_reducible rfl | rfl | omega | assumption | (simp; omega))
  (try simp only [Act.put, aP, aZ, aS])
  refine rg_take (i := 14) (v := ?_) rfl (by kernel_rfl) (by kernel_rfl) (by kernel_rfl) (fun _ _ _ h => h) rfl (by assumption) ?_ ?_
  rotate_left
  · intro w hSw; (go_simp; first | done | with_reducible rfl | rfl | omega | assumption | (simp; omega))
  (try simp only [Act.put, aP, aZ, aS])
  refine rg_take (i := 15) (v := ?_) rfl (by kernel_rfl) (by kernel_rfl) (by kernel_rfl) (fun _ _ _ h => h) rfl (by assumption) ?_ ?_
  rotate_left
  · intro w hSw; (go_simp; first | done | with_reducible rfl | rfl | omega | assumption | (simp; omega))
  (try simp only [Act.put, aP, aZ, aS])
  refine rg_take (i := 16) (v := ?_) rfl (by kernel_rfl) (by kernel_rfl) (by kernel_rfl) (fun _ _ _ h => h) rfl (by assumption) ?_ ?_
  rotate_left
  · intro w hSw; (go_simp; first | done | with_reducible rfl | rfl | omega | assumption | (simp; omega))
  (try simp only [Act.put, aP, aZ, aS])
  refine rg_take (i := 17) (v := ?_) rfl (by kernel_rfl) (by kernel_rfl) (by kernel_rfl) (fun _ _ _ h => h) rfl (by assumption) ?_ ?_
  rotate_left
  · intro w hSw; (go_simp; first | done | with_reducible rfl | rfl | omega | assumption | (simp; omega))
  (try simp only [Act.put, aP, aZ, aS])
  refine rg_take (i := 18) (v := ?_) rfl (by kernel_rfl) (by kernel_rfl) (by kernel_rfl) (fun _ _ _ h => h) rfl (by assumption) ?_ ?_
  rotate_left
  · intro w hSw; (go_simp; first | done | with_reducible rfl | rfl | omega | assumption | (simp; omega))
  (try simp only [Act.put, aP, aZ, aS])
  refine rg_take (i := 19) (v := ?_) rfl (by kernel_rfl) (by kernel_rfl) (by kernel_rfl) (fun _ _ _ h => h) rfl (by assumption) ?_ ?_
  rotate_left
  · intro w hSw; (go_simp; first | done | with_reducible rfl | rfl | omega | assumption | (simp; omega))
  (try simp only [Act.put, aP, aZ, aS])
  refine rg_take (i := 20) (v := ?_) rfl (by kernel_rfl) (by kernel_rfl) (by kernel_rfl) (fun _ _ _ h => h) rfl (by assumption) ?_ ?_
  rotate_left
  · intro w hSw; (go_simp; first | done | with_reducible rfl | rfl | omega | assumption | (simp; omega))
  (try simp only [Act.put, aP, aZ, aS])
  refine rg_take (i := 21) (v := ?_) rfl (by kernel_rfl) (by kernel_rfl) (by kernel_rfl) (fun _ _ _ h => h) rfl (by assumption) ?_ ?_
  rotate_left
  · intro w hSw; (go_simp; first | done | with_reducible rfl | rfl | omega | assumption | (simp; omega))
  (try simp only [Act.put, aP, aZ, aS])
  refine rg_take (i := 22) (v := ?_) rfl (by kernel_rfl) (by kernel_rfl) (by kernel_rfl) (fun _ _ _ h => h) rfl (by assumption) ?_ ?_
  rotate_left
  · intro w hSw; (go_simp; first | done | with_reducible rfl | rfl | omega | assumption | (simp; omega))
  (try simp only [Act.put, aP, aZ, aS])
  refine rg_take (i := 23) (v := ?_) rfl (by kernel_rfl) (by kernel_rfl) (by kernel_rfl) (fun _ _ _ h => h) rfl (by assumption) ?_ ?_
  rotate_left
  · intro w hSw; (go_simp; first | done | with_reducible rfl | rfl | omega | assumption | (simp; omega))
  (try simp only [Act.put, aP, aZ, aS])
  refine rg_take (i := 24) (v := ?_) rfl (by kernel_rfl) (by kernel_rfl) (by kernel_rfl) (fun _ _ _ h => h) rfl (by assumption) ?_ ?_
  rotate_left
  · intro w hSw; (go_simp; first | done | with_reducible rfl | rfl | omega | assumption | (simp; omega))
  (try simp only [Act.put, aP, aZ, aS])
  refine rg_one (i := 25) (by kernel_rfl) rfl rfl (fun Kp hKp => ?_)
  (first | ((with_reducible apply st_storeAll); assumption; rfl; (go_simp; rfl); (repeat (first | with_reducible exact Out.here _ | apply Out.there)); rfl; (focus (first | (simp [Value.oneCell']; done) | (simp [Value.cells, Value.oneCell']; done))); rfl; intro wr1_25 hsr1_25; simp only [Value.cells] at hsr1_25) | ((with_reducible apply st_store); assumption; rfl; (go_simp; rfl); (repeat (first | with_reducible exact Out.here _ | apply Out.there)); rfl; (first | (focus (simp [Value.oneCell']; done)) | (simp [Value.cells, Value.oneCell'])); (first | (focus (simp; done)) | (simp [Value.cells])); intro wr1_25 hsr1_25; simp only [upd, Value.cells] at hsr1_25))
  refine rg_back (hK := hKp) ?_ (fun hskr1_25 => ?_)
  · (first | assumption | (apply Sat.drew; assumption) | (apply Sat.pick; assumption; (repeat (first | exact Pick.nil _ | with_reducible exact Pick.tail _ | with_reducible exact Out.here _ | apply Out.there | apply Pick.cons | apply Pick.drop))))
  clear hKp Kp
  have hszr1_25 := hsr1_25
  (try dsimp only [Act.put])
  refine rg_done (by kernel_rfl) ?_
  refine hK1.out _ _ ?_
  (try clear hK1 K1)
  refine wp_ret ?_
  ((try simp only [Exit.inBlock, Exit.then]); refine retC1 rfl rfl (by assumption) (by (repeat (first | exact Out.here _ | apply Out.there))) (by simp) rfl rfl ?_)
  exact ⟨rfl, (by assumption : Sat w0 _ _).pick (by (repeat (first | exact Pick.nil _ | exact Pick.tail _ | exact Out.here _ | apply Out.there | apply Pick.cons | apply Pick.drop)))⟩

/-- It has ended, or given up. -/
def RetU (w0 : World) (L : List HP) (b : Bool) (v : Int) (e : Ending) (w' : World) : Prop := e = (if b then .returned (.tuple #[]) else .panicked (quitV v)) ∧ Sat w0 w' L


theorem right_m_spec {w0 w : World} {L : List HP} {A B C : Option Addr} {ca cb cc : Nat} (v : Int) (kd fr dn tm na nb nc nd : Int) (yes : Bool) (es : List Ent) (sv : List Int) (dt : List UInt8)
    (he : es.length ≤ 1048576) (hv : sv.length ≤ 1048576) (hd : dt.length ≤ 4194304) (hs : Sat w0 w L) :
    Calls Try.prog 22 #[.agg #[.int .i64 kd, .int .i64 fr, .int .i64 dn, .int .i64 tm, .int .i64 na, .int .i64 nb, .int .i64 nc, .int .i64 nd, .bool yes, .slice A es.length ca, .slice B sv.length cb, .slice C dt.length cc], .int .i64 v] w
      (RetU w0 L (rightP ⟨kd, fr, dn, tm, na, nb, nc, nd, yes, es, sv, dt⟩) v) := by
  obtain ⟨β, hβ⟩ : ∃ β, rightP ⟨kd, fr, dn, tm, na, nb, nc, nd, yes, es, sv, dt⟩ = β := ⟨_, rfl⟩
  rw [hβ]
  have Hβ := Hid.mk' hβ
  clear hβ
  have hw : IntKind.i64.wrap ((sv.length : Int) + (dt.length : Int)) = (sv.length : Int) + (dt.length : Int) := IntWalk.i64_in _ (by omega)
  go_enter Try.func22, Try.ntmps22
  refine wk_seq (fun K0 hK0 => ?_)
  refine wk_reg ?_
  refine pl_eff rfl (fun Kp hKp => ?_)
  ((with_reducible apply st_box); assumption; (go_simp; rfl); intro b2 w2 hs2; simp only [Value.cells] at hs2)
  refine hKp.out _ _ ?_
  clear hKp Kp
  (try simp only [Act.put, aP, aZ, aS])
  refine pl_done ?_
  refine hK0.out _ _ ?_
  (try clear hK0 K0)
  refine wk_seq (fun K1 hK1 => ?_)
  refine wk_reg ?_
  iterate 2 (refine pl_take (v := ?_) rfl ?_ ?_; rotate_left; (· (first | ((with_reducible apply yl_load); assumption; rfl; (repeat (first | with_reducible assumption | ((with_reducible apply Cl.own); exact rfl) | ((with_reducible apply Cl.blkL); exact rfl) | with_reducible apply Cl.cons)); rfl) | (go_simp; first | done | with_reducible rfl | rfl | omega | assumption | (simp; omega)))); (try simp only [Act.put, aP, aZ, aS]))
  by_cases k1 : 1 ≤ kd
  · refine pl_take (v := .bool true) rfl ?_ ?_
    · (go_simp; first | done | with_reducible rfl | rfl | omega | assumption | (simp; omega))
    (try simp only [Act.put, aP, aZ, aS])
    refine pl_take (v := .bool true) rfl ?_ ?_
    · (go_simp; first | done | with_reducible rfl | rfl | omega | assumption | (simp; omega))
    (try simp only [Act.put, aP, aZ, aS])
    iterate 2 (refine pl_take (v := ?_) (by kernel_rfl) ?_ ?_; rotate_left; (· (first | ((with_reducible apply yl_load); assumption; rfl; (repeat (first | with_reducible assumption | ((with_reducible apply Cl.own); exact rfl) | ((with_reducible apply Cl.blkL); exact rfl) | with_reducible apply Cl.cons)); rfl) | (go_simp; first | done | with_reducible rfl | rfl | omega | assumption | (simp; omega)))); (try simp only [Act.put, aP, aZ, aS]))
    by_cases k2 : kd ≤ 6
    · refine pl_take (v := .bool true) (by kernel_rfl) ?_ ?_
      · (go_simp; first | done | with_reducible rfl | rfl | omega | assumption | (simp; omega))
      (try simp only [Act.put, aP, aZ, aS])
      iterate 2 (refine pl_take (v := .bool true) rfl ?_ ?_; (· (go_simp; first | done | with_reducible rfl | rfl | omega | assumption | (simp; omega))); (try simp only [Act.put, aP, aZ, aS]))
      iterate 2 (refine pl_take (v := ?_) (by kernel_rfl) ?_ ?_; rotate_left; (· (first | ((with_reducible apply yl_load); assumption; rfl; (repeat (first | with_reducible assumption | ((with_reducible apply Cl.own); exact rfl) | ((with_reducible apply Cl.blkL); exact rfl) | with_reducible apply Cl.cons)); rfl) | (go_simp; first | done | with_reducible rfl | rfl | omega | assumption | (simp; omega)))); (try simp only [Act.put, aP, aZ, aS]))
      by_cases k3 : 0 ≤ fr
      · refine pl_take (v := .bool true) (by kernel_rfl) ?_ ?_
        · (go_simp; first | done | with_reducible rfl | rfl | omega | assumption | (simp; omega))
        (try simp only [Act.put, aP, aZ, aS])
        iterate 2 (refine pl_take (v := .bool true) rfl ?_ ?_; (· (go_simp; first | done | with_reducible rfl | rfl | omega | assumption | (simp; omega))); (try simp only [Act.put, aP, aZ, aS]))
        iterate 2 (refine pl_take (v := ?_) (by kernel_rfl) ?_ ?_; rotate_left; (· (first | ((with_reducible apply yl_load); assumption; rfl; (repeat (first | with_reducible assumption | ((with_reducible apply Cl.own); exact rfl) | ((with_reducible apply Cl.blkL); exact rfl) | with_reducible apply Cl.cons)); rfl) | (go_simp; first | done | with_reducible rfl | rfl | omega | assumption | (simp; omega)))); (try simp only [Act.put, aP, aZ, aS]))
        by_cases k4 : fr < 16
        · refine pl_take (v := .bool true) (by kernel_rfl) ?_ ?_
          · (go_simp; first | done | with_reducible rfl | rfl | omega | assumption | (simp; omega))
          (try simp only [Act.put, aP, aZ, aS])
          iterate 2 (refine pl_take (v := .bool true) rfl ?_ ?_; (· (go_simp; first | done | with_reducible rfl | rfl | omega | assumption | (simp; omega))); (try simp only [Act.put, aP, aZ, aS]))
          iterate 2 (refine pl_take (v := ?_) (by kernel_rfl) ?_ ?_; rotate_left; (· (first | ((with_reducible apply yl_load); assumption; rfl; (repeat (first | with_reducible assumption | ((with_reducible apply Cl.own); exact rfl) | ((with_reducible apply Cl.blkL); exact rfl) | with_reducible apply Cl.cons)); rfl) | (go_simp; first | done | with_reducible rfl | rfl | omega | assumption | (simp; omega)))); (try simp only [Act.put, aP, aZ, aS]))
          by_cases k5 : 0 ≤ dn
          · refine pl_take (v := .bool true) (by kernel_rfl) ?_ ?_
            · (go_simp; first | done | with_reducible rfl | rfl | omega | assumption | (simp; omega))
            (try simp only [Act.put, aP, aZ, aS])
            iterate 2 (refine pl_take (v := .bool true) rfl ?_ ?_; (· (go_simp; first | done | with_reducible rfl | rfl | omega | assumption | (simp; omega))); (try simp only [Act.put, aP, aZ, aS]))
            iterate 2 (refine pl_take (v := ?_) (by kernel_rfl) ?_ ?_; rotate_left; (· (first | ((with_reducible apply yl_load); assumption; rfl; (repeat (first | with_reducible assumption | ((with_reducible apply Cl.own); exact rfl) | ((with_reducible apply Cl.blkL); exact rfl) | with_reducible apply Cl.cons)); rfl) | (go_simp; first | done | with_reducible rfl | rfl | omega | assumption | (simp; omega)))); (try simp only [Act.put, aP, aZ, aS]))
            by_cases k6 : dn < 16
            · refine pl_take (v := .bool true) (by kernel_rfl) ?_ ?_
              · (go_simp; first | done | with_reducible rfl | rfl | omega | assumption | (simp; omega))
              (try simp only [Act.put, aP, aZ, aS])
              iterate 2 (refine pl_take (v := .bool true) rfl ?_ ?_; (· (go_simp; first | done | with_reducible rfl | rfl | omega | assumption | (simp; omega))); (try simp only [Act.put, aP, aZ, aS]))
              iterate 2 (refine pl_take (v := ?_) (by kernel_rfl) ?_ ?_; rotate_left; (· (first | ((with_reducible apply yl_load); assumption; rfl; (repeat (first | with_reducible assumption | ((with_reducible apply Cl.own); exact rfl) | ((with_reducible apply Cl.blkL); exact rfl) | with_reducible apply Cl.cons)); rfl) | (go_simp; first | done | with_reducible rfl | rfl | omega | assumption | (simp; omega)))); (try simp only [Act.put, aP, aZ, aS]))
              by_cases k7 : 1 ≤ tm
              · refine pl_take (v := .bool true) (by kernel_rfl) ?_ ?_
                · (go_simp; first | done | with_reducible rfl | rfl | omega | assumption | (simp; omega))
                (try simp only [Act.put, aP, aZ, aS])
                iterate 2 (refine pl_take (v := .bool true) rfl ?_ ?_; (· (go_simp; first | done | with_reducible rfl | rfl | omega | assumption | (simp; omega))); (try simp only [Act.put, aP, aZ, aS]))
                iterate 2 (refine pl_take (v := ?_) (by kernel_rfl) ?_ ?_; rotate_left; (· (first | ((with_reducible apply yl_load); assumption; rfl; (repeat (first | with_reducible assumption | ((with_reducible apply Cl.own); exact rfl) | ((with_reducible apply Cl.blkL); exact rfl) | with_reducible apply Cl.cons)); rfl) | (go_simp; first | done | with_reducible rfl | rfl | omega | assumption | (simp; omega)))); (try simp only [Act.put, aP, aZ, aS]))
                by_cases k8 : tm < 1099511627776
                · refine pl_take (v := .bool true) (by kernel_rfl) ?_ ?_
                  · (go_simp; first | done | with_reducible rfl | rfl | omega | assumption | (simp; omega))
                  (try simp only [Act.put, aP, aZ, aS])
                  refine pl_take (v := .bool true) rfl ?_ ?_
                  · (go_simp; first | done | with_reducible rfl | rfl | omega | assumption | (simp; omega))
                  (try simp only [Act.put, aP, aZ, aS])
                  refine pl_take (v := ?_) rfl ?_ ?_
                  rotate_left
                  · (go_simp; first | done | with_reducible rfl | rfl | omega | assumption | (simp; omega))
                  (try simp only [Act.put, aP, aZ, aS])
                  refine pl_eff rfl (fun Kp hKp => ?_)
                  go_simp
                  ((refine (demand_ok _).mono ?_); rintro e46 w46 ⟨rfl, rfl⟩)
                  (try go_wp2_with fail)
                  refine hKp.out _ _ ?_
                  clear hKp Kp
                  (try simp only [Act.put, aP, aZ, aS])
                  refine pl_done ?_
                  refine hK1.out _ _ ?_
                  (try clear hK1 K1)
                  refine wk_seq (fun K2 hK2 => ?_)
                  refine wk_reg ?_
                  refine pl_eff rfl (fun Kp hKp => ?_)
                  go_simp
                  ((refine (fields_spec (by assumption)).mono ?_); rintro e47 w47 ⟨rfl, hs47⟩)
                  (try go_wp2_with fail)
                  refine hKp.out _ _ ?_
                  clear hKp Kp
                  (try simp only [Act.put, aP, aZ, aS])
                  refine pl_eff rfl (fun Kp hKp => ?_)
                  ((with_reducible apply st_alloc); assumption; intro b4 w4 hs4; simp only [Value.cells] at hs4)
                  refine hKp.out _ _ ?_
                  clear hKp Kp
                  (try simp only [Act.put, aP, aZ, aS])
                  refine pl_eff rfl (fun Kp hKp => ?_)
                  (first | ((with_reducible apply st_storeAll); assumption; rfl; (go_simp; rfl); (repeat (first | with_reducible exact Out.here _ | apply Out.there)); rfl; (focus (first | (simp [Value.oneCell']; done) | (simp [Value.cells, Value.oneCell']; done))); rfl; intro wr2_2 hsr2_2; simp only [Value.cells] at hsr2_2) | ((with_reducible apply st_store); assumption; rfl; (go_simp; rfl); (repeat (first | with_reducible exact Out.here _ | apply Out.there)); rfl; (first | (focus (simp [Value.oneCell']; done)) | (simp [Value.cells, Value.oneCell'])); (first | (focus (simp; done)) | (simp [Value.cells])); intro wr2_2 hsr2_2; simp only [upd, Value.cells] at hsr2_2))
                  refine hKp.out _ _ ?_
                  clear hKp Kp
                  (try dsimp only [Act.put])
                  refine pl_done ?_
                  refine hK2.out _ _ ?_
                  (try clear hK2 K2)
                  refine wk_seq (fun K3 hK3 => ?_)
                  refine wk_seq (fun K4 hK4 => ?_)
                  refine wk_reg ?_
                  iterate 3 (refine pl_take (v := ?_) rfl ?_ ?_; rotate_left; (· (go_simp; first | done | with_reducible rfl | rfl | omega | assumption | (simp; omega))); (try simp only [Act.put, aP, aZ, aS]))
                  refine pl_done ?_
                  refine hK4.out _ _ ?_
                  (try clear hK4 K4)
                  refine wp_block ?_
                  have hwr1 : IntKind.i64.wrap 1 = 1 := by decide
                  have hwr2 : IntKind.i64.wrap 2 = 2 := by decide
                  have hwr3 : IntKind.i64.wrap 3 = 3 := by decide
                  have hwr4 : IntKind.i64.wrap 4 = 4 := by decide
                  have hwr5 : IntKind.i64.wrap 5 = 5 := by decide
                  have hwr6 : IntKind.i64.wrap 6 = 6 := by decide
                  have hwr7 : IntKind.i64.wrap 7 = 7 := by decide
                  have hwr8 : IntKind.i64.wrap 8 = 8 := by decide
                  have hwr9 : IntKind.i64.wrap 9 = 9 := by decide
                  refine wp_loop_rounds 5 ?_
                  rw [rounds_succ]
                  refine wk_seq (fun K5 hK5 => ?_)
                  refine wk_reg ?_
                  refine pl_take (v := .bool true) rfl ?_ ?_
                  · (go_simp; first | done | with_reducible rfl | rfl | omega | assumption | (simp; omega))
                  (try simp only [Act.put, aP, aZ, aS])
                  refine pl_done ?_
                  refine hK5.out _ _ ?_
                  (try clear hK5 K5)
                  refine wk_seq (fun K6 hK6 => ?_)
                  refine wp_cond_true rfl ?_
                  refine wp_skip ?_
                  refine hK6.out _ _ ?_
                  (try clear hK6 K6)
                  refine wk_seq (fun K7 hK7 => ?_)
                  refine wp_block ?_
                  refine wk_seq (fun K8 hK8 => ?_)
                  refine wk_reg ?_
                  iterate 3 (refine pl_take (v := ?_) rfl ?_ ?_; rotate_left; (· (first | ((with_reducible apply yl_load); assumption; rfl; (repeat (first | with_reducible assumption | ((with_reducible apply Cl.own); exact rfl) | ((with_reducible apply Cl.blkL); exact rfl) | with_reducible apply Cl.cons)); rfl) | (go_simp; first | done | with_reducible rfl | rfl | omega | assumption | (simp; omega)))); (try simp only [Act.put, aP, aZ, aS]))
                  refine pl_done ?_
                  refine hK8.out _ _ ?_
                  (try clear hK8 K8)
                  refine wk_reg ?_
                  iterate 3 (refine pl_take (v := ?_) rfl ?_ ?_; rotate_left; (· (first | ((with_reducible apply yl_load); assumption; rfl; (repeat (first | with_reducible assumption | ((with_reducible apply Cl.own); exact rfl) | ((with_reducible apply Cl.blkL); exact rfl) | with_reducible apply Cl.cons)); rfl) | (go_simp; first | done | with_reducible rfl | rfl | omega | assumption | (simp; omega)))); (try simp only [Act.put, aP, aZ, aS]))
                  by_cases k9 : 0 ≤ na
                  · refine pl_take (v := .bool true) rfl ?_ ?_
                    · (go_simp; first | done | with_reducible rfl | rfl | omega | assumption | (simp; omega))
                    (try simp only [Act.put, aP, aZ, aS])
                    refine pl_take (v := .bool true) rfl ?_ ?_
                    · (go_simp; first | done | with_reducible rfl | rfl | omega | assumption | (simp; omega))
                    (try simp only [Act.put, aP, aZ, aS])
                    iterate 3 (refine pl_take (v := ?_) (by kernel_rfl) ?_ ?_; rotate_left; (· (first | ((with_reducible apply yl_load); assumption; rfl; (repeat (first | with_reducible assumption | ((with_reducible apply Cl.own); exact rfl) | ((with_reducible apply Cl.blkL); exact rfl) | with_reducible apply Cl.cons)); rfl) | (go_simp; first | done | with_reducible rfl | rfl | omega | assumption | (simp; omega)))); (try simp only [Act.put, aP, aZ, aS]))
                    by_cases k10 : na ≤ 1099511627776
                    · refine pl_take (v := .bool true) (by kernel_rfl) ?_ ?_
                      · (go_simp; first | done | with_reducible rfl | rfl | omega | assumption | (simp; omega))
                      (try simp only [Act.put, aP, aZ, aS])
                      refine pl_take (v := .bool true) rfl ?_ ?_
                      · (go_simp; first | done | with_reducible rfl | rfl | omega | assumption | (simp; omega))
                      (try simp only [Act.put, aP, aZ, aS])
                      refine pl_take (v := ?_) rfl ?_ ?_
                      rotate_left
                      · (go_simp; first | done | with_reducible rfl | rfl | omega | assumption | (simp; omega))
                      (try simp only [Act.put, aP, aZ, aS])
                      refine pl_eff rfl (fun Kp hKp => ?_)
                      go_simp
                      ((refine (demand_ok _).mono ?_); rintro e65 w65 ⟨rfl, rfl⟩)
                      (try go_wp2_with fail)
                      refine hKp.out _ _ ?_
                      clear hKp Kp
                      (try simp only [Act.put, aP, aZ, aS])
                      refine pl_done ?_
                      refine hK7.out _ _ ?_
                      (try clear hK7 K7)
                      refine wk_reg ?_
                      iterate 2 (refine pl_take (v := ?_) rfl ?_ ?_; rotate_left; (· (go_simp; first | done | with_reducible rfl | rfl | omega | assumption | (simp; omega))); (try simp only [Act.put, aP, aZ, aS]))
                      refine pl_done ?_
                      show Code.rounds _ _ _ _ _ _
                      rw [rounds_succ]
                      refine wk_seq (fun K5 hK5 => ?_)
                      refine wk_reg ?_
                      refine pl_take (v := .bool true) rfl ?_ ?_
                      · (go_simp; first | done | with_reducible rfl | rfl | omega | assumption | (simp; omega))
                      (try simp only [Act.put, aP, aZ, aS])
                      refine pl_done ?_
                      refine hK5.out _ _ ?_
                      (try clear hK5 K5)
                      refine wk_seq (fun K6 hK6 => ?_)
                      refine wp_cond_true rfl ?_
                      refine wp_skip ?_
                      refine hK6.out _ _ ?_
                      (try clear hK6 K6)
                      refine wk_seq (fun K7 hK7 => ?_)
                      refine wp_block ?_
                      refine wk_seq (fun K8 hK8 => ?_)
                      refine wk_reg ?_
                      iterate 3 (refine pl_take (v := ?_) rfl ?_ ?_; rotate_left; (· (first | ((with_reducible apply yl_load); assumption; rfl; (repeat (first | with_reducible assumption | ((with_reducible apply Cl.own); exact rfl) | ((with_reducible apply Cl.blkL); exact rfl) | with_reducible apply Cl.cons)); rfl) | (go_simp; first | done | with_reducible rfl | rfl | omega | assumption | (simp; omega)))); (try simp only [Act.put, aP, aZ, aS]))
                      refine pl_done ?_
                      refine hK8.out _ _ ?_
                      (try clear hK8 K8)
                      refine wk_reg ?_
                      iterate 3 (refine pl_take (v := ?_) rfl ?_ ?_; rotate_left; (· (first | ((with_reducible apply yl_load); assumption; rfl; (repeat (first | with_reducible assumption | ((with_reducible apply Cl.own); exact rfl) | ((with_reducible apply Cl.blkL); exact rfl) | with_reducible apply Cl.cons)); rfl) | (go_simp; first | done | with_reducible rfl | rfl | omega | assumption | (simp; omega)))); (try simp only [Act.put, aP, aZ, aS]))
                      by_cases k9_1 : 0 ≤ nb
                      · refine pl_take (v := .bool true) rfl ?_ ?_
                        · (go_simp; first | done | with_reducible rfl | rfl | omega | assumption | (simp; omega))
                        (try simp only [Act.put, aP, aZ, aS])
                        refine pl_take (v := .bool true) rfl ?_ ?_
                        · (go_simp; first | done | with_reducible rfl | rfl | omega | assumption | (simp; omega))
                        (try simp only [Act.put, aP, aZ, aS])
                        iterate 3 (refine pl_take (v := ?_) (by kernel_rfl) ?_ ?_; rotate_left; (· (first | ((with_reducible apply yl_load); assumption; rfl; (repeat (first | with_reducible assumption | ((with_reducible apply Cl.own); exact rfl) | ((with_reducible apply Cl.blkL); exact rfl) | with_reducible apply Cl.cons)); rfl) | (go_simp; first | done | with_reducible rfl | rfl | omega | assumption | (simp; omega)))); (try simp only [Act.put, aP, aZ, aS]))
                        by_cases k10_1 : nb ≤ 1099511627776
                        · refine pl_take (v := .bool true) (by kernel_rfl) ?_ ?_
                          · (go_simp; first | done | with_reducible rfl | rfl | omega | assumption | (simp; omega))
                          (try simp only [Act.put, aP, aZ, aS])
                          refine pl_take (v := .bool true) rfl ?_ ?_
                          · (go_simp; first | done | with_reducible rfl | rfl | omega | assumption | (simp; omega))
                          (try simp only [Act.put, aP, aZ, aS])
                          refine pl_take (v := ?_) rfl ?_ ?_
                          rotate_left
                          · (go_simp; first | done | with_reducible rfl | rfl | omega | assumption | (simp; omega))
                          (try simp only [Act.put, aP, aZ, aS])
                          refine pl_eff rfl (fun Kp hKp => ?_)
                          go_simp
                          ((refine (demand_ok _).mono ?_); rintro e65 w65 ⟨rfl, rfl⟩)
                          (try go_wp2_with fail)
                          refine hKp.out _ _ ?_
                          clear hKp Kp
                          (try simp only [Act.put, aP, aZ, aS])
                          refine pl_done ?_
                          refine hK7.out _ _ ?_
                          (try clear hK7 K7)
                          refine wk_reg ?_
                          iterate 2 (refine pl_take (v := ?_) rfl ?_ ?_; rotate_left; (· (go_simp; first | done | with_reducible rfl | rfl | omega | assumption | (simp; omega))); (try simp only [Act.put, aP, aZ, aS]))
                          refine pl_done ?_
                          show Code.rounds _ _ _ _ _ _
                          rw [rounds_succ]
                          refine wk_seq (fun K5 hK5 => ?_)
                          refine wk_reg ?_
                          refine pl_take (v := .bool true) rfl ?_ ?_
                          · (go_simp; first | done | with_reducible rfl | rfl | omega | assumption | (simp; omega))
                          (try simp only [Act.put, aP, aZ, aS])
                          refine pl_done ?_
                          refine hK5.out _ _ ?_
                          (try clear hK5 K5)
                          refine wk_seq (fun K6 hK6 => ?_)
                          refine wp_cond_true rfl ?_
                          refine wp_skip ?_
                          refine hK6.out _ _ ?_
                          (try clear hK6 K6)
                          refine wk_seq (fun K7 hK7 => ?_)
                          refine wp_block ?_
                          refine wk_seq (fun K8 hK8 => ?_)
                          refine wk_reg ?_
                          iterate 3 (refine pl_take (v := ?_) rfl ?_ ?_; rotate_left; (· (first | ((with_reducible apply yl_load); assumption; rfl; (repeat (first | with_reducible assumption | ((with_reducible apply Cl.own); exact rfl) | ((with_reducible apply Cl.blkL); exact rfl) | with_reducible apply Cl.cons)); rfl) | (go_simp; first | done | with_reducible rfl | rfl | omega | assumption | (simp; omega)))); (try simp only [Act.put, aP, aZ, aS]))
                          refine pl_done ?_
                          refine hK8.out _ _ ?_
                          (try clear hK8 K8)
                          refine wk_reg ?_
                          iterate 3 (refine pl_take (v := ?_) rfl ?_ ?_; rotate_left; (· (first | ((with_reducible apply yl_load); assumption; rfl; (repeat (first | with_reducible assumption | ((with_reducible apply Cl.own); exact rfl) | ((with_reducible apply Cl.blkL); exact rfl) | with_reducible apply Cl.cons)); rfl) | (go_simp; first | done | with_reducible rfl | rfl | omega | assumption | (simp; omega)))); (try simp only [Act.put, aP, aZ, aS]))
                          by_cases k9_2 : 0 ≤ nc
                          · refine pl_take (v := .bool true) rfl ?_ ?_
                            · (go_simp; first | done | with_reducible rfl | rfl | omega | assumption | (simp; omega))
                            (try simp only [Act.put, aP, aZ, aS])
                            refine pl_take (v := .bool true) rfl ?_ ?_
                            · (go_simp; first | done | with_reducible rfl | rfl | omega | assumption | (simp; omega))
                            (try simp only [Act.put, aP, aZ, aS])
                            iterate 3 (refine pl_take (v := ?_) (by kernel_rfl) ?_ ?_; rotate_left; (· (first | ((with_reducible apply yl_load); assumption; rfl; (repeat (first | with_reducible assumption | ((with_reducible apply Cl.own); exact rfl) | ((with_reducible apply Cl.blkL); exact rfl) | with_reducible apply Cl.cons)); rfl) | (go_simp; first | done | with_reducible rfl | rfl | omega | assumption | (simp; omega)))); (try simp only [Act.put, aP, aZ, aS]))
                            by_cases k10_2 : nc ≤ 1099511627776
                            · refine pl_take (v := .bool true) (by kernel_rfl) ?_ ?_
                              · (go_simp; first | done | with_reducible rfl | rfl | omega | assumption | (simp; omega))
                              (try simp only [Act.put, aP, aZ, aS])
                              refine pl_take (v := .bool true) rfl ?_ ?_
                              · (go_simp; first | done | with_reducible rfl | rfl | omega | assumption | (simp; omega))
                              (try simp only [Act.put, aP, aZ, aS])
                              refine pl_take (v := ?_) rfl ?_ ?_
                              rotate_left
                              · (go_simp; first | done | with_reducible rfl | rfl | omega | assumption | (simp; omega))
                              (try simp only [Act.put, aP, aZ, aS])
                              refine pl_eff rfl (fun Kp hKp => ?_)
                              go_simp
                              ((refine (demand_ok _).mono ?_); rintro e65 w65 ⟨rfl, rfl⟩)
                              (try go_wp2_with fail)
                              refine hKp.out _ _ ?_
                              clear hKp Kp
                              (try simp only [Act.put, aP, aZ, aS])
                              refine pl_done ?_
                              refine hK7.out _ _ ?_
                              (try clear hK7 K7)
                              refine wk_reg ?_
                              iterate 2 (refine pl_take (v := ?_) rfl ?_ ?_; rotate_left; (· (go_simp; first | done | with_reducible rfl | rfl | omega | assumption | (simp; omega))); (try simp only [Act.put, aP, aZ, aS]))
                              refine pl_done ?_
                              show Code.rounds _ _ _ _ _ _
                              rw [rounds_succ]
                              refine wk_seq (fun K5 hK5 => ?_)
                              refine wk_reg ?_
                              refine pl_take (v := .bool true) rfl ?_ ?_
                              · (go_simp; first | done | with_reducible rfl | rfl | omega | assumption | (simp; omega))
                              (try simp only [Act.put, aP, aZ, aS])
                              refine pl_done ?_
                              refine hK5.out _ _ ?_
                              (try clear hK5 K5)
                              refine wk_seq (fun K6 hK6 => ?_)
                              refine wp_cond_true rfl ?_
                              refine wp_skip ?_
                              refine hK6.out _ _ ?_
                              (try clear hK6 K6)
                              refine wk_seq (fun K7 hK7 => ?_)
                              refine wp_block ?_
                              refine wk_seq (fun K8 hK8 => ?_)
                              refine wk_reg ?_
                              iterate 3 (refine pl_take (v := ?_) rfl ?_ ?_; rotate_left; (· (first | ((with_reducible apply yl_load); assumption; rfl; (repeat (first | with_reducible assumption | ((with_reducible apply Cl.own); exact rfl) | ((with_reducible apply Cl.blkL); exact rfl) | with_reducible apply Cl.cons)); rfl) | (go_simp; first | done | with_reducible rfl | rfl | omega | assumption | (simp; omega)))); (try simp only [Act.put, aP, aZ, aS]))
                              refine pl_done ?_
                              refine hK8.out _ _ ?_
                              (try clear hK8 K8)
                              refine wk_reg ?_
                              iterate 3 (refine pl_take (v := ?_) rfl ?_ ?_; rotate_left; (· (first | ((with_reducible apply yl_load); assumption; rfl; (repeat (first | with_reducible assumption | ((with_reducible apply Cl.own); exact rfl) | ((with_reducible apply Cl.blkL); exact rfl) | with_reducible apply Cl.cons)); rfl) | (go_simp; first | done | with_reducible rfl | rfl | omega | assumption | (simp; omega)))); (try simp only [Act.put, aP, aZ, aS]))
                              by_cases k9_3 : 0 ≤ nd
                              · refine pl_take (v := .bool true) rfl ?_ ?_
                                · (go_simp; first | done | with_reducible rfl | rfl | omega | assumption | (simp; omega))
                                (try simp only [Act.put, aP, aZ, aS])
                                refine pl_take (v := .bool true) rfl ?_ ?_
                                · (go_simp; first | done | with_reducible rfl | rfl | omega | assumption | (simp; omega))
                                (try simp only [Act.put, aP, aZ, aS])
                                iterate 3 (refine pl_take (v := ?_) (by kernel_rfl) ?_ ?_; rotate_left; (· (first | ((with_reducible apply yl_load); assumption; rfl; (repeat (first | with_reducible assumption | ((with_reducible apply Cl.own); exact rfl) | ((with_reducible apply Cl.blkL); exact rfl) | with_reducible apply Cl.cons)); rfl) | (go_simp; first | done | with_reducible rfl | rfl | omega | assumption | (simp; omega)))); (try simp only [Act.put, aP, aZ, aS]))
                                by_cases k10_3 : nd ≤ 1099511627776
                                · refine pl_take (v := .bool true) (by kernel_rfl) ?_ ?_
                                  · (go_simp; first | done | with_reducible rfl | rfl | omega | assumption | (simp; omega))
                                  (try simp only [Act.put, aP, aZ, aS])
                                  refine pl_take (v := .bool true) rfl ?_ ?_
                                  · (go_simp; first | done | with_reducible rfl | rfl | omega | assumption | (simp; omega))
                                  (try simp only [Act.put, aP, aZ, aS])
                                  refine pl_take (v := ?_) rfl ?_ ?_
                                  rotate_left
                                  · (go_simp; first | done | with_reducible rfl | rfl | omega | assumption | (simp; omega))
                                  (try simp only [Act.put, aP, aZ, aS])
                                  refine pl_eff rfl (fun Kp hKp => ?_)
                                  go_simp
                                  ((refine (demand_ok _).mono ?_); rintro e65 w65 ⟨rfl, rfl⟩)
                                  (try go_wp2_with fail)
                                  refine hKp.out _ _ ?_
                                  clear hKp Kp
                                  (try simp only [Act.put, aP, aZ, aS])
                                  refine pl_done ?_
                                  refine hK7.out _ _ ?_
                                  (try clear hK7 K7)
                                  refine wk_reg ?_
                                  iterate 2 (refine pl_take (v := ?_) rfl ?_ ?_; rotate_left; (· (go_simp; first | done | with_reducible rfl | rfl | omega | assumption | (simp; omega))); (try simp only [Act.put, aP, aZ, aS]))
                                  refine pl_done ?_
                                  show Code.rounds _ _ _ _ _ _
                                  rw [rounds_succ]
                                  refine wk_seq (fun K5 hK5 => ?_)
                                  refine wk_reg ?_
                                  refine pl_take (v := .bool false) rfl ?_ ?_
                                  · (go_simp; first | done | with_reducible rfl | rfl | omega | assumption | (simp; omega))
                                  (try simp only [Act.put, aP, aZ, aS])
                                  refine pl_done ?_
                                  refine hK5.out _ _ ?_
                                  (try clear hK5 K5)
                                  refine wk_seq (fun K6 hK6 => ?_)
                                  refine wp_cond_false rfl ?_
                                  refine wp_exit ?_
                                  refine hK3.out _ _ ?_
                                  (try clear hK3 K3)
                                  refine wk_seq (fun K9 hK9 => ?_)
                                  refine wk_reg ?_
                                  iterate 3 (refine pl_take (v := ?_) rfl ?_ ?_; rotate_left; (· (first | ((with_reducible apply yl_load); assumption; rfl; (repeat (first | with_reducible assumption | ((with_reducible apply Cl.own); exact rfl) | ((with_reducible apply Cl.blkL); exact rfl) | with_reducible apply Cl.cons)); rfl) | (go_simp; first | done | with_reducible rfl | rfl | omega | assumption | (simp; omega)))); (try simp only [Act.put, aP, aZ, aS]))
                                  by_cases k11 : es.length ≤ 8
                                  · refine pl_take (v := .bool true) rfl ?_ ?_
                                    · (go_simp; first | done | with_reducible rfl | rfl | omega | assumption | (simp; omega))
                                    (try simp only [Act.put, aP, aZ, aS])
                                    refine pl_take (v := .bool true) rfl ?_ ?_
                                    · (go_simp; first | done | with_reducible rfl | rfl | omega | assumption | (simp; omega))
                                    (try simp only [Act.put, aP, aZ, aS])
                                    iterate 2 (refine pl_take (v := ?_) (by kernel_rfl) ?_ ?_; rotate_left; (· (first | ((with_reducible apply yl_load); assumption; rfl; (repeat (first | with_reducible assumption | ((with_reducible apply Cl.own); exact rfl) | ((with_reducible apply Cl.blkL); exact rfl) | with_reducible apply Cl.cons)); rfl) | (go_simp; first | done | with_reducible rfl | rfl | omega | assumption | (simp; omega)))); (try simp only [Act.put, aP, aZ, aS]))
                                    by_cases k12 : kd = 3
                                    · refine pl_take (v := .bool true) (by kernel_rfl) ?_ ?_
                                      · (go_simp; first | done | with_reducible rfl | rfl | omega | assumption | (simp; omega))
                                      (try simp only [Act.put, aP, aZ, aS])
                                      refine pl_take (v := .bool true) (by kernel_rfl) ?_ ?_
                                      · (go_simp; first | done | with_reducible rfl | rfl | omega | assumption | (simp; omega))
                                      (try simp only [Act.put, aP, aZ, aS])
                                      iterate 4 (refine pl_skip (by kernel_rfl) ?_; (try simp only [Act.put, aP, aZ, aS]))
                                      refine pl_take (v := .bool true) (by kernel_rfl) ?_ ?_
                                      · (go_simp; first | done | with_reducible rfl | rfl | omega | assumption | (simp; omega))
                                      (try simp only [Act.put, aP, aZ, aS])
                                      iterate 2 (refine pl_take (v := .bool true) rfl ?_ ?_; (· (go_simp; first | done | with_reducible rfl | rfl | omega | assumption | (simp; omega))); (try simp only [Act.put, aP, aZ, aS]))
                                      iterate 3 (refine pl_take (v := ?_) (by kernel_rfl) ?_ ?_; rotate_left; (· (first | ((with_reducible apply yl_load); assumption; rfl; (repeat (first | with_reducible assumption | ((with_reducible apply Cl.own); exact rfl) | ((with_reducible apply Cl.blkL); exact rfl) | with_reducible apply Cl.cons)); rfl) | (go_simp; first | done | with_reducible rfl | rfl | omega | assumption | (simp; omega)))); (try simp only [Act.put, aP, aZ, aS]))
                                      by_cases k14 : dt.length ≤ 65536
                                      · refine pl_take (v := .bool true) (by kernel_rfl) ?_ ?_
                                        · (go_simp; first | done | with_reducible rfl | rfl | omega | assumption | (simp; omega))
                                        (try simp only [Act.put, aP, aZ, aS])
                                        refine pl_take (v := .bool true) rfl ?_ ?_
                                        · (go_simp; first | done | with_reducible rfl | rfl | omega | assumption | (simp; omega))
                                        (try simp only [Act.put, aP, aZ, aS])
                                        refine pl_take (v := ?_) rfl ?_ ?_
                                        rotate_left
                                        · (go_simp; first | done | with_reducible rfl | rfl | omega | assumption | (simp; omega))
                                        (try simp only [Act.put, aP, aZ, aS])
                                        refine pl_eff rfl (fun Kp hKp => ?_)
                                        go_simp
                                        ((refine (demand_ok _).mono ?_); rintro e89 w89 ⟨rfl, rfl⟩)
                                        (try go_wp2_with fail)
                                        refine hKp.out _ _ ?_
                                        clear hKp Kp
                                        (try simp only [Act.put, aP, aZ, aS])
                                        refine pl_done ?_
                                        refine hK9.out _ _ ?_
                                        (try clear hK9 K9)
                                        refine wk_reg ?_
                                        iterate 2 (refine pl_take (v := ?_) rfl ?_ ?_; rotate_left; (· (first | ((with_reducible apply yl_load); assumption; rfl; (repeat (first | with_reducible assumption | ((with_reducible apply Cl.own); exact rfl) | ((with_reducible apply Cl.blkL); exact rfl) | with_reducible apply Cl.cons)); rfl) | (go_simp; first | done | with_reducible rfl | rfl | omega | assumption | (simp; omega)))); (try simp only [Act.put, aP, aZ, aS]))
                                        by_cases k15 : kd = 5
                                        · refine pl_take (v := .bool true) rfl ?_ ?_
                                          · (go_simp; first | done | with_reducible rfl | rfl | omega | assumption | (simp; omega))
                                          (try simp only [Act.put, aP, aZ, aS])
                                          refine pl_take (v := .bool true) rfl ?_ ?_
                                          · (go_simp; first | done | with_reducible rfl | rfl | omega | assumption | (simp; omega))
                                          (try simp only [Act.put, aP, aZ, aS])
                                          iterate 8 (refine pl_skip (by kernel_rfl) ?_; (try simp only [Act.put, aP, aZ, aS]))
                                          refine pl_take (v := .bool true) rfl ?_ ?_
                                          · (go_simp; first | done | with_reducible rfl | rfl | omega | assumption | (simp; omega))
                                          (try simp only [Act.put, aP, aZ, aS])
                                          refine pl_take (v := ?_) rfl ?_ ?_
                                          rotate_left
                                          · (go_simp; first | done | with_reducible rfl | rfl | omega | assumption | (simp; omega))
                                          (try simp only [Act.put, aP, aZ, aS])
                                          refine pl_eff rfl (fun Kp hKp => ?_)
                                          go_simp
                                          ((refine (demand_ok _).mono ?_); rintro e104 w104 ⟨rfl, rfl⟩)
                                          (try go_wp2_with fail)
                                          refine hKp.out _ _ ?_
                                          clear hKp Kp
                                          (try simp only [Act.put, aP, aZ, aS])
                                          refine pl_done ?_
                                          -- the end
                                          go_end0
                                          obtain rfl : β = true := by rw [← Hβ.out, rightP_iff]; simp only [okNums, decide_eq_true_eq]; omega
                                          exact ⟨rfl, (by assumption : Sat w0 _ _).pick (by (repeat (first | exact Pick.nil _ | exact Pick.tail _ | exact Out.here _ | apply Out.there | apply Pick.cons | apply Pick.drop)))⟩
                                        · refine pl_take (v := .bool false) rfl ?_ ?_
                                          · (go_simp; first | done | with_reducible rfl | rfl | omega | assumption | (simp; omega))
                                          (try simp only [Act.put, aP, aZ, aS])
                                          refine pl_take (v := .bool false) rfl ?_ ?_
                                          · (go_simp; first | done | with_reducible rfl | rfl | omega | assumption | (simp; omega))
                                          (try simp only [Act.put, aP, aZ, aS])
                                          iterate 7 (refine pl_take (v := ?_) (by kernel_rfl) ?_ ?_; rotate_left; (· (first | ((with_reducible apply yl_load); assumption; rfl; (repeat (first | with_reducible assumption | ((with_reducible apply Cl.own); exact rfl) | ((with_reducible apply Cl.blkL); exact rfl) | with_reducible apply Cl.cons)); rfl) | (go_simp; first | done | with_reducible rfl | rfl | omega | assumption | (simp; omega)))); (try simp only [Act.put, aP, aZ, aS]))
                                          by_cases k16 : sv.length + dt.length = 0
                                          · refine pl_take (v := .bool true) (by kernel_rfl) ?_ ?_
                                            · (go_simp; first | done | with_reducible rfl | rfl | omega | assumption | (simp; omega))
                                            (try simp only [Act.put, aP, aZ, aS])
                                            refine pl_take (v := .bool true) rfl ?_ ?_
                                            · (go_simp; first | done | with_reducible rfl | rfl | omega | assumption | (simp; omega))
                                            (try simp only [Act.put, aP, aZ, aS])
                                            refine pl_take (v := ?_) rfl ?_ ?_
                                            rotate_left
                                            · (go_simp; first | done | with_reducible rfl | rfl | omega | assumption | (simp; omega))
                                            (try simp only [Act.put, aP, aZ, aS])
                                            refine pl_eff rfl (fun Kp hKp => ?_)
                                            go_simp
                                            ((refine (demand_ok _).mono ?_); rintro e104 w104 ⟨rfl, rfl⟩)
                                            (try go_wp2_with fail)
                                            refine hKp.out _ _ ?_
                                            clear hKp Kp
                                            (try simp only [Act.put, aP, aZ, aS])
                                            refine pl_done ?_
                                            -- the end
                                            go_end0
                                            obtain rfl : β = true := by rw [← Hβ.out, rightP_iff]; simp only [okNums, decide_eq_true_eq]; omega
                                            exact ⟨rfl, (by assumption : Sat w0 _ _).pick (by (repeat (first | exact Pick.nil _ | exact Pick.tail _ | exact Out.here _ | apply Out.there | apply Pick.cons | apply Pick.drop)))⟩
                                          · refine pl_take (v := .bool false) (by kernel_rfl) ?_ ?_
                                            · (go_simp; first | done | with_reducible rfl | rfl | omega | assumption | (simp; omega))
                                            (try simp only [Act.put, aP, aZ, aS])
                                            refine pl_take (v := .bool false) rfl ?_ ?_
                                            · (go_simp; first | done | with_reducible rfl | rfl | omega | assumption | (simp; omega))
                                            (try simp only [Act.put, aP, aZ, aS])
                                            refine pl_take (v := ?_) rfl ?_ ?_
                                            rotate_left
                                            · (go_simp; first | done | with_reducible rfl | rfl | omega | assumption | (simp; omega))
                                            (try simp only [Act.put, aP, aZ, aS])
                                            refine pl_eff rfl (fun Kp hKp => ?_)
                                            go_simp
                                            ((refine (demand_bad _).mono ?_); rintro e104 w104 ⟨rfl, rfl⟩)
                                            -- it panics
                                            obtain rfl : β = false := by rw [← Hβ.out, Bool.eq_false_iff]; intro hh; rw [rightP_iff] at hh; simp only [okNums, decide_eq_true_eq] at hh; omega
                                            exact ⟨rfl, rfl, (by assumption : Sat w0 _ _).pick (by (repeat (first | exact Pick.nil _ | exact Pick.tail _ | exact Out.here _ | apply Out.there | apply Pick.cons | apply Pick.drop)))⟩
                                      · refine pl_take (v := .bool false) (by kernel_rfl) ?_ ?_
                                        · (go_simp; first | done | with_reducible rfl | rfl | omega | assumption | (simp; omega))
                                        (try simp only [Act.put, aP, aZ, aS])
                                        refine pl_take (v := .bool false) rfl ?_ ?_
                                        · (go_simp; first | done | with_reducible rfl | rfl | omega | assumption | (simp; omega))
                                        (try simp only [Act.put, aP, aZ, aS])
                                        refine pl_take (v := ?_) rfl ?_ ?_
                                        rotate_left
                                        · (go_simp; first | done | with_reducible rfl | rfl | omega | assumption | (simp; omega))
                                        (try simp only [Act.put, aP, aZ, aS])
                                        refine pl_eff rfl (fun Kp hKp => ?_)
                                        go_simp
                                        ((refine (demand_bad _).mono ?_); rintro e89 w89 ⟨rfl, rfl⟩)
                                        -- it panics
                                        obtain rfl : β = false := by rw [← Hβ.out, Bool.eq_false_iff]; intro hh; rw [rightP_iff] at hh; simp only [okNums, decide_eq_true_eq] at hh; omega
                                        exact ⟨rfl, rfl, (by assumption : Sat w0 _ _).pick (by (repeat (first | exact Pick.nil _ | exact Pick.tail _ | exact Out.here _ | apply Out.there | apply Pick.cons | apply Pick.drop)))⟩
                                    · refine pl_take (v := .bool false) (by kernel_rfl) ?_ ?_
                                      · (go_simp; first | done | with_reducible rfl | rfl | omega | assumption | (simp; omega))
                                      (try simp only [Act.put, aP, aZ, aS])
                                      refine pl_take (v := .bool false) (by kernel_rfl) ?_ ?_
                                      · (go_simp; first | done | with_reducible rfl | rfl | omega | assumption | (simp; omega))
                                      (try simp only [Act.put, aP, aZ, aS])
                                      iterate 3 (refine pl_take (v := ?_) (by kernel_rfl) ?_ ?_; rotate_left; (· (first | ((with_reducible apply yl_load); assumption; rfl; (repeat (first | with_reducible assumption | ((with_reducible apply Cl.own); exact rfl) | ((with_reducible apply Cl.blkL); exact rfl) | with_reducible apply Cl.cons)); rfl) | (go_simp; first | done | with_reducible rfl | rfl | omega | assumption | (simp; omega)))); (try simp only [Act.put, aP, aZ, aS]))
                                      by_cases k13 : es.length = 0
                                      · refine pl_take (v := .bool true) (by kernel_rfl) ?_ ?_
                                        · (go_simp; first | done | with_reducible rfl | rfl | omega | assumption | (simp; omega))
                                        (try simp only [Act.put, aP, aZ, aS])
                                        refine pl_take (v := .bool true) (by kernel_rfl) ?_ ?_
                                        · (go_simp; first | done | with_reducible rfl | rfl | omega | assumption | (simp; omega))
                                        (try simp only [Act.put, aP, aZ, aS])
                                        iterate 2 (refine pl_take (v := .bool true) rfl ?_ ?_; (· (go_simp; first | done | with_reducible rfl | rfl | omega | assumption | (simp; omega))); (try simp only [Act.put, aP, aZ, aS]))
                                        iterate 3 (refine pl_take (v := ?_) (by kernel_rfl) ?_ ?_; rotate_left; (· (first | ((with_reducible apply yl_load); assumption; rfl; (repeat (first | with_reducible assumption | ((with_reducible apply Cl.own); exact rfl) | ((with_reducible apply Cl.blkL); exact rfl) | with_reducible apply Cl.cons)); rfl) | (go_simp; first | done | with_reducible rfl | rfl | omega | assumption | (simp; omega)))); (try simp only [Act.put, aP, aZ, aS]))
                                        by_cases k14 : dt.length ≤ 65536
                                        · refine pl_take (v := .bool true) (by kernel_rfl) ?_ ?_
                                          · (go_simp; first | done | with_reducible rfl | rfl | omega | assumption | (simp; omega))
                                          (try simp only [Act.put, aP, aZ, aS])
                                          refine pl_take (v := .bool true) rfl ?_ ?_
                                          · (go_simp; first | done | with_reducible rfl | rfl | omega | assumption | (simp; omega))
                                          (try simp only [Act.put, aP, aZ, aS])
                                          refine pl_take (v := ?_) rfl ?_ ?_
                                          rotate_left
                                          · (go_simp; first | done | with_reducible rfl | rfl | omega | assumption | (simp; omega))
                                          (try simp only [Act.put, aP, aZ, aS])
                                          refine pl_eff rfl (fun Kp hKp => ?_)
                                          go_simp
                                          ((refine (demand_ok _).mono ?_); rintro e89 w89 ⟨rfl, rfl⟩)
                                          (try go_wp2_with fail)
                                          refine hKp.out _ _ ?_
                                          clear hKp Kp
                                          (try simp only [Act.put, aP, aZ, aS])
                                          refine pl_done ?_
                                          refine hK9.out _ _ ?_
                                          (try clear hK9 K9)
                                          refine wk_reg ?_
                                          iterate 2 (refine pl_take (v := ?_) rfl ?_ ?_; rotate_left; (· (first | ((with_reducible apply yl_load); assumption; rfl; (repeat (first | with_reducible assumption | ((with_reducible apply Cl.own); exact rfl) | ((with_reducible apply Cl.blkL); exact rfl) | with_reducible apply Cl.cons)); rfl) | (go_simp; first | done | with_reducible rfl | rfl | omega | assumption | (simp; omega)))); (try simp only [Act.put, aP, aZ, aS]))
                                          by_cases k15 : kd = 5
                                          · refine pl_take (v := .bool true) rfl ?_ ?_
                                            · (go_simp; first | done | with_reducible rfl | rfl | omega | assumption | (simp; omega))
                                            (try simp only [Act.put, aP, aZ, aS])
                                            refine pl_take (v := .bool true) rfl ?_ ?_
                                            · (go_simp; first | done | with_reducible rfl | rfl | omega | assumption | (simp; omega))
                                            (try simp only [Act.put, aP, aZ, aS])
                                            iterate 8 (refine pl_skip (by kernel_rfl) ?_; (try simp only [Act.put, aP, aZ, aS]))
                                            refine pl_take (v := .bool true) rfl ?_ ?_
                                            · (go_simp; first | done | with_reducible rfl | rfl | omega | assumption | (simp; omega))
                                            (try simp only [Act.put, aP, aZ, aS])
                                            refine pl_take (v := ?_) rfl ?_ ?_
                                            rotate_left
                                            · (go_simp; first | done | with_reducible rfl | rfl | omega | assumption | (simp; omega))
                                            (try simp only [Act.put, aP, aZ, aS])
                                            refine pl_eff rfl (fun Kp hKp => ?_)
                                            go_simp
                                            ((refine (demand_ok _).mono ?_); rintro e104 w104 ⟨rfl, rfl⟩)
                                            (try go_wp2_with fail)
                                            refine hKp.out _ _ ?_
                                            clear hKp Kp
                                            (try simp only [Act.put, aP, aZ, aS])
                                            refine pl_done ?_
                                            -- the end
                                            go_end0
                                            obtain rfl : β = true := by rw [← Hβ.out, rightP_iff]; simp only [okNums, decide_eq_true_eq]; omega
                                            exact ⟨rfl, (by assumption : Sat w0 _ _).pick (by (repeat (first | exact Pick.nil _ | exact Pick.tail _ | exact Out.here _ | apply Out.there | apply Pick.cons | apply Pick.drop)))⟩
                                          · refine pl_take (v := .bool false) rfl ?_ ?_
                                            · (go_simp; first | done | with_reducible rfl | rfl | omega | assumption | (simp; omega))
                                            (try simp only [Act.put, aP, aZ, aS])
                                            refine pl_take (v := .bool false) rfl ?_ ?_
                                            · (go_simp; first | done | with_reducible rfl | rfl | omega | assumption | (simp; omega))
                                            (try simp only [Act.put, aP, aZ, aS])
                                            iterate 7 (refine pl_take (v := ?_) (by kernel_rfl) ?_ ?_; rotate_left; (· (first | ((with_reducible apply yl_load); assumption; rfl; (repeat (first | with_reducible assumption | ((with_reducible apply Cl.own); exact rfl) | ((with_reducible apply Cl.blkL); exact rfl) | with_reducible apply Cl.cons)); rfl) | (go_simp; first | done | with_reducible rfl | rfl | omega | assumption | (simp; omega)))); (try simp only [Act.put, aP, aZ, aS]))
                                            by_cases k16 : sv.length + dt.length = 0
                                            · refine pl_take (v := .bool true) (by kernel_rfl) ?_ ?_
                                              · (go_simp; first | done | with_reducible rfl | rfl | omega | assumption | (simp; omega))
                                              (try simp only [Act.put, aP, aZ, aS])
                                              refine pl_take (v := .bool true) rfl ?_ ?_
                                              · (go_simp; first | done | with_reducible rfl | rfl | omega | assumption | (simp; omega))
                                              (try simp only [Act.put, aP, aZ, aS])
                                              refine pl_take (v := ?_) rfl ?_ ?_
                                              rotate_left
                                              · (go_simp; first | done | with_reducible rfl | rfl | omega | assumption | (simp; omega))
                                              (try simp only [Act.put, aP, aZ, aS])
                                              refine pl_eff rfl (fun Kp hKp => ?_)
                                              go_simp
                                              ((refine (demand_ok _).mono ?_); rintro e104 w104 ⟨rfl, rfl⟩)
                                              (try go_wp2_with fail)
                                              refine hKp.out _ _ ?_
                                              clear hKp Kp
                                              (try simp only [Act.put, aP, aZ, aS])
                                              refine pl_done ?_
                                              -- the end
                                              go_end0
                                              obtain rfl : β = true := by rw [← Hβ.out, rightP_iff]; simp only [okNums, decide_eq_true_eq]; omega
                                              exact ⟨rfl, (by assumption : Sat w0 _ _).pick (by (repeat (first | exact Pick.nil _ | exact Pick.tail _ | exact Out.here _ | apply Out.there | apply Pick.cons | apply Pick.drop)))⟩
                                            · refine pl_take (v := .bool false) (by kernel_rfl) ?_ ?_
                                              · (go_simp; first | done | with_reducible rfl | rfl | omega | assumption | (simp; omega))
                                              (try simp only [Act.put, aP, aZ, aS])
                                              refine pl_take (v := .bool false) rfl ?_ ?_
                                              · (go_simp; first | done | with_reducible rfl | rfl | omega | assumption | (simp; omega))
                                              (try simp only [Act.put, aP, aZ, aS])
                                              refine pl_take (v := ?_) rfl ?_ ?_
                                              rotate_left
                                              · (go_simp; first | done | with_reducible rfl | rfl | omega | assumption | (simp; omega))
                                              (try simp only [Act.put, aP, aZ, aS])
                                              refine pl_eff rfl (fun Kp hKp => ?_)
                                              go_simp
                                              ((refine (demand_bad _).mono ?_); rintro e104 w104 ⟨rfl, rfl⟩)
                                              -- it panics
                                              obtain rfl : β = false := by rw [← Hβ.out, Bool.eq_false_iff]; intro hh; rw [rightP_iff] at hh; simp only [okNums, decide_eq_true_eq] at hh; omega
                                              exact ⟨rfl, rfl, (by assumption : Sat w0 _ _).pick (by (repeat (first | exact Pick.nil _ | exact Pick.tail _ | exact Out.here _ | apply Out.there | apply Pick.cons | apply Pick.drop)))⟩
                                        · refine pl_take (v := .bool false) (by kernel_rfl) ?_ ?_
                                          · (go_simp; first | done | with_reducible rfl | rfl | omega | assumption | (simp; omega))
                                          (try simp only [Act.put, aP, aZ, aS])
                                          refine pl_take (v := .bool false) rfl ?_ ?_
                                          · (go_simp; first | done | with_reducible rfl | rfl | omega | assumption | (simp; omega))
                                          (try simp only [Act.put, aP, aZ, aS])
                                          refine pl_take (v := ?_) rfl ?_ ?_
                                          rotate_left
                                          · (go_simp; first | done | with_reducible rfl | rfl | omega | assumption | (simp; omega))
                                          (try simp only [Act.put, aP, aZ, aS])
                                          refine pl_eff rfl (fun Kp hKp => ?_)
                                          go_simp
                                          ((refine (demand_bad _).mono ?_); rintro e89 w89 ⟨rfl, rfl⟩)
                                          -- it panics
                                          obtain rfl : β = false := by rw [← Hβ.out, Bool.eq_false_iff]; intro hh; rw [rightP_iff] at hh; simp only [okNums, decide_eq_true_eq] at hh; omega
                                          exact ⟨rfl, rfl, (by assumption : Sat w0 _ _).pick (by (repeat (first | exact Pick.nil _ | exact Pick.tail _ | exact Out.here _ | apply Out.there | apply Pick.cons | apply Pick.drop)))⟩
                                      · refine pl_take (v := .bool false) (by kernel_rfl) ?_ ?_
                                        · (go_simp; first | done | with_reducible rfl | rfl | omega | assumption | (simp; omega))
                                        (try simp only [Act.put, aP, aZ, aS])
                                        refine pl_take (v := .bool false) (by kernel_rfl) ?_ ?_
                                        · (go_simp; first | done | with_reducible rfl | rfl | omega | assumption | (simp; omega))
                                        (try simp only [Act.put, aP, aZ, aS])
                                        iterate 2 (refine pl_take (v := .bool false) rfl ?_ ?_; (· (go_simp; first | done | with_reducible rfl | rfl | omega | assumption | (simp; omega))); (try simp only [Act.put, aP, aZ, aS]))
                                        iterate 4 (refine pl_skip (by kernel_rfl) ?_; (try simp only [Act.put, aP, aZ, aS]))
                                        refine pl_take (v := .bool false) rfl ?_ ?_
                                        · (go_simp; first | done | with_reducible rfl | rfl | omega | assumption | (simp; omega))
                                        (try simp only [Act.put, aP, aZ, aS])
                                        refine pl_take (v := ?_) rfl ?_ ?_
                                        rotate_left
                                        · (go_simp; first | done | with_reducible rfl | rfl | omega | assumption | (simp; omega))
                                        (try simp only [Act.put, aP, aZ, aS])
                                        refine pl_eff rfl (fun Kp hKp => ?_)
                                        go_simp
                                        ((refine (demand_bad _).mono ?_); rintro e89 w89 ⟨rfl, rfl⟩)
                                        -- it panics
                                        obtain rfl : β = false := by rw [← Hβ.out, Bool.eq_false_iff]; intro hh; rw [rightP_iff] at hh; simp only [okNums, decide_eq_true_eq] at hh; omega
                                        exact ⟨rfl, rfl, (by assumption : Sat w0 _ _).pick (by (repeat (first | exact Pick.nil _ | exact Pick.tail _ | exact Out.here _ | apply Out.there | apply Pick.cons | apply Pick.drop)))⟩
                                  · refine pl_take (v := .bool false) rfl ?_ ?_
                                    · (go_simp; first | done | with_reducible rfl | rfl | omega | assumption | (simp; omega))
                                    (try simp only [Act.put, aP, aZ, aS])
                                    refine pl_take (v := .bool false) rfl ?_ ?_
                                    · (go_simp; first | done | with_reducible rfl | rfl | omega | assumption | (simp; omega))
                                    (try simp only [Act.put, aP, aZ, aS])
                                    iterate 9 (refine pl_skip (by kernel_rfl) ?_; (try simp only [Act.put, aP, aZ, aS]))
                                    iterate 2 (refine pl_take (v := .bool false) rfl ?_ ?_; (· (go_simp; first | done | with_reducible rfl | rfl | omega | assumption | (simp; omega))); (try simp only [Act.put, aP, aZ, aS]))
                                    iterate 4 (refine pl_skip (by kernel_rfl) ?_; (try simp only [Act.put, aP, aZ, aS]))
                                    refine pl_take (v := .bool false) rfl ?_ ?_
                                    · (go_simp; first | done | with_reducible rfl | rfl | omega | assumption | (simp; omega))
                                    (try simp only [Act.put, aP, aZ, aS])
                                    refine pl_take (v := ?_) rfl ?_ ?_
                                    rotate_left
                                    · (go_simp; first | done | with_reducible rfl | rfl | omega | assumption | (simp; omega))
                                    (try simp only [Act.put, aP, aZ, aS])
                                    refine pl_eff rfl (fun Kp hKp => ?_)
                                    go_simp
                                    ((refine (demand_bad _).mono ?_); rintro e89 w89 ⟨rfl, rfl⟩)
                                    -- it panics
                                    obtain rfl : β = false := by rw [← Hβ.out, Bool.eq_false_iff]; intro hh; rw [rightP_iff] at hh; simp only [okNums, decide_eq_true_eq] at hh; omega
                                    exact ⟨rfl, rfl, (by assumption : Sat w0 _ _).pick (by (repeat (first | exact Pick.nil _ | exact Pick.tail _ | exact Out.here _ | apply Out.there | apply Pick.cons | apply Pick.drop)))⟩
                                · refine pl_take (v := .bool false) (by kernel_rfl) ?_ ?_
                                  · (go_simp; first | done | with_reducible rfl | rfl | omega | assumption | (simp; omega))
                                  (try simp only [Act.put, aP, aZ, aS])
                                  refine pl_take (v := .bool false) rfl ?_ ?_
                                  · (go_simp; first | done | with_reducible rfl | rfl | omega | assumption | (simp; omega))
                                  (try simp only [Act.put, aP, aZ, aS])
                                  refine pl_take (v := ?_) rfl ?_ ?_
                                  rotate_left
                                  · (go_simp; first | done | with_reducible rfl | rfl | omega | assumption | (simp; omega))
                                  (try simp only [Act.put, aP, aZ, aS])
                                  refine pl_eff rfl (fun Kp hKp => ?_)
                                  go_simp
                                  ((refine (demand_bad _).mono ?_); rintro e65 w65 ⟨rfl, rfl⟩)
                                  -- it panics
                                  obtain rfl : β = false := by rw [← Hβ.out, Bool.eq_false_iff]; intro hh; rw [rightP_iff] at hh; simp only [okNums, decide_eq_true_eq] at hh; omega
                                  exact ⟨rfl, rfl, (by assumption : Sat w0 _ _).pick (by (repeat (first | exact Pick.nil _ | exact Pick.tail _ | exact Out.here _ | apply Out.there | apply Pick.cons | apply Pick.drop)))⟩
                              · refine pl_take (v := .bool false) rfl ?_ ?_
                                · (go_simp; first | done | with_reducible rfl | rfl | omega | assumption | (simp; omega))
                                (try simp only [Act.put, aP, aZ, aS])
                                refine pl_take (v := .bool false) rfl ?_ ?_
                                · (go_simp; first | done | with_reducible rfl | rfl | omega | assumption | (simp; omega))
                                (try simp only [Act.put, aP, aZ, aS])
                                iterate 4 (refine pl_skip (by kernel_rfl) ?_; (try simp only [Act.put, aP, aZ, aS]))
                                refine pl_take (v := .bool false) rfl ?_ ?_
                                · (go_simp; first | done | with_reducible rfl | rfl | omega | assumption | (simp; omega))
                                (try simp only [Act.put, aP, aZ, aS])
                                refine pl_take (v := ?_) rfl ?_ ?_
                                rotate_left
                                · (go_simp; first | done | with_reducible rfl | rfl | omega | assumption | (simp; omega))
                                (try simp only [Act.put, aP, aZ, aS])
                                refine pl_eff rfl (fun Kp hKp => ?_)
                                go_simp
                                ((refine (demand_bad _).mono ?_); rintro e65 w65 ⟨rfl, rfl⟩)
                                -- it panics
                                obtain rfl : β = false := by rw [← Hβ.out, Bool.eq_false_iff]; intro hh; rw [rightP_iff] at hh; simp only [okNums, decide_eq_true_eq] at hh; omega
                                exact ⟨rfl, rfl, (by assumption : Sat w0 _ _).pick (by (repeat (first | exact Pick.nil _ | exact Pick.tail _ | exact Out.here _ | apply Out.there | apply Pick.cons | apply Pick.drop)))⟩
                            · refine pl_take (v := .bool false) (by kernel_rfl) ?_ ?_
                              · (go_simp; first | done | with_reducible rfl | rfl | omega | assumption | (simp; omega))
                              (try simp only [Act.put, aP, aZ, aS])
                              refine pl_take (v := .bool false) rfl ?_ ?_
                              · (go_simp; first | done | with_reducible rfl | rfl | omega | assumption | (simp; omega))
                              (try simp only [Act.put, aP, aZ, aS])
                              refine pl_take (v := ?_) rfl ?_ ?_
                              rotate_left
                              · (go_simp; first | done | with_reducible rfl | rfl | omega | assumption | (simp; omega))
                              (try simp only [Act.put, aP, aZ, aS])
                              refine pl_eff rfl (fun Kp hKp => ?_)
                              go_simp
                              ((refine (demand_bad _).mono ?_); rintro e65 w65 ⟨rfl, rfl⟩)
                              -- it panics
                              obtain rfl : β = false := by rw [← Hβ.out, Bool.eq_false_iff]; intro hh; rw [rightP_iff] at hh; simp only [okNums, decide_eq_true_eq] at hh; omega
                              exact ⟨rfl, rfl, (by assumption : Sat w0 _ _).pick (by (repeat (first | exact Pick.nil _ | exact Pick.tail _ | exact Out.here _ | apply Out.there | apply Pick.cons | apply Pick.drop)))⟩
                          · refine pl_take (v := .bool false) rfl ?_ ?_
                            · (go_simp; first | done | with_reducible rfl | rfl | omega | assumption | (simp; omega))
                            (try simp only [Act.put, aP, aZ, aS])
                            refine pl_take (v := .bool false) rfl ?_ ?_
                            · (go_simp; first | done | with_reducible rfl | rfl | omega | assumption | (simp; omega))
                            (try simp only [Act.put, aP, aZ, aS])
                            iterate 4 (refine pl_skip (by kernel_rfl) ?_; (try simp only [Act.put, aP, aZ, aS]))
                            refine pl_take (v := .bool false) rfl ?_ ?_
                            · (go_simp; first | done | with_reducible rfl | rfl | omega | assumption | (simp; omega))
                            (try simp only [Act.put, aP, aZ, aS])
                            refine pl_take (v := ?_) rfl ?_ ?_
                            rotate_left
                            · (go_simp; first | done | with_reducible rfl | rfl | omega | assumption | (simp; omega))
                            (try simp only [Act.put, aP, aZ, aS])
                            refine pl_eff rfl (fun Kp hKp => ?_)
                            go_simp
                            ((refine (demand_bad _).mono ?_); rintro e65 w65 ⟨rfl, rfl⟩)
                            -- it panics
                            obtain rfl : β = false := by rw [← Hβ.out, Bool.eq_false_iff]; intro hh; rw [rightP_iff] at hh; simp only [okNums, decide_eq_true_eq] at hh; omega
                            exact ⟨rfl, rfl, (by assumption : Sat w0 _ _).pick (by (repeat (first | exact Pick.nil _ | exact Pick.tail _ | exact Out.here _ | apply Out.there | apply Pick.cons | apply Pick.drop)))⟩
                        · refine pl_take (v := .bool false) (by kernel_rfl) ?_ ?_
                          · (go_simp; first | done | with_reducible rfl | rfl | omega | assumption | (simp; omega))
                          (try simp only [Act.put, aP, aZ, aS])
                          refine pl_take (v := .bool false) rfl ?_ ?_
                          · (go_simp; first | done | with_reducible rfl | rfl | omega | assumption | (simp; omega))
                          (try simp only [Act.put, aP, aZ, aS])
                          refine pl_take (v := ?_) rfl ?_ ?_
                          rotate_left
                          · (go_simp; first | done | with_reducible rfl | rfl | omega | assumption | (simp; omega))
                          (try simp only [Act.put, aP, aZ, aS])
                          refine pl_eff rfl (fun Kp hKp => ?_)
                          go_simp
                          ((refine (demand_bad _).mono ?_); rintro e65 w65 ⟨rfl, rfl⟩)
                          -- it panics
                          obtain rfl : β = false := by rw [← Hβ.out, Bool.eq_false_iff]; intro hh; rw [rightP_iff] at hh; simp only [okNums, decide_eq_true_eq] at hh; omega
                          exact ⟨rfl, rfl, (by assumption : Sat w0 _ _).pick (by (repeat (first | exact Pick.nil _ | exact Pick.tail _ | exact Out.here _ | apply Out.there | apply Pick.cons | apply Pick.drop)))⟩
                      · refine pl_take (v := .bool false) rfl ?_ ?_
                        · (go_simp; first | done | with_reducible rfl | rfl | omega | assumption | (simp; omega))
                        (try simp only [Act.put, aP, aZ, aS])
                        refine pl_take (v := .bool false) rfl ?_ ?_
                        · (go_simp; first | done | with_reducible rfl | rfl | omega | assumption | (simp; omega))
                        (try simp only [Act.put, aP, aZ, aS])
                        iterate 4 (refine pl_skip (by kernel_rfl) ?_; (try simp only [Act.put, aP, aZ, aS]))
                        refine pl_take (v := .bool false) rfl ?_ ?_
                        · (go_simp; first | done | with_reducible rfl | rfl | omega | assumption | (simp; omega))
                        (try simp only [Act.put, aP, aZ, aS])
                        refine pl_take (v := ?_) rfl ?_ ?_
                        rotate_left
                        · (go_simp; first | done | with_reducible rfl | rfl | omega | assumption | (simp; omega))
                        (try simp only [Act.put, aP, aZ, aS])
                        refine pl_eff rfl (fun Kp hKp => ?_)
                        go_simp
                        ((refine (demand_bad _).mono ?_); rintro e65 w65 ⟨rfl, rfl⟩)
                        -- it panics
                        obtain rfl : β = false := by rw [← Hβ.out, Bool.eq_false_iff]; intro hh; rw [rightP_iff] at hh; simp only [okNums, decide_eq_true_eq] at hh; omega
                        exact ⟨rfl, rfl, (by assumption : Sat w0 _ _).pick (by (repeat (first | exact Pick.nil _ | exact Pick.tail _ | exact Out.here _ | apply Out.there | apply Pick.cons | apply Pick.drop)))⟩
                    · refine pl_take (v := .bool false) (by kernel_rfl) ?_ ?_
                      · (go_simp; first | done | with_reducible rfl | rfl | omega | assumption | (simp; omega))
                      (try simp only [Act.put, aP, aZ, aS])
                      refine pl_take (v := .bool false) rfl ?_ ?_
                      · (go_simp; first | done | with_reducible rfl | rfl | omega | assumption | (simp; omega))
                      (try simp only [Act.put, aP, aZ, aS])
                      refine pl_take (v := ?_) rfl ?_ ?_
                      rotate_left
                      · (go_simp; first | done | with_reducible rfl | rfl | omega | assumption | (simp; omega))
                      (try simp only [Act.put, aP, aZ, aS])
                      refine pl_eff rfl (fun Kp hKp => ?_)
                      go_simp
                      ((refine (demand_bad _).mono ?_); rintro e65 w65 ⟨rfl, rfl⟩)
                      -- it panics
                      obtain rfl : β = false := by rw [← Hβ.out, Bool.eq_false_iff]; intro hh; rw [rightP_iff] at hh; simp only [okNums, decide_eq_true_eq] at hh; omega
                      exact ⟨rfl, rfl, (by assumption : Sat w0 _ _).pick (by (repeat (first | exact Pick.nil _ | exact Pick.tail _ | exact Out.here _ | apply Out.there | apply Pick.cons | apply Pick.drop)))⟩
                  · refine pl_take (v := .bool false) rfl ?_ ?_
                    · (go_simp; first | done | with_reducible rfl | rfl | omega | assumption | (simp; omega))
                    (try simp only [Act.put, aP, aZ, aS])
                    refine pl_take (v := .bool false) rfl ?_ ?_
                    · (go_simp; first | done | with_reducible rfl | rfl | omega | assumption | (simp; omega))
                    (try simp only [Act.put, aP, aZ, aS])
                    iterate 4 (refine pl_skip (by kernel_rfl) ?_; (try simp only [Act.put, aP, aZ, aS]))
                    refine pl_take (v := .bool false) rfl ?_ ?_
                    · (go_simp; first | done | with_reducible rfl | rfl | omega | assumption | (simp; omega))
                    (try simp only [Act.put, aP, aZ, aS])
                    refine pl_take (v := ?_) rfl ?_ ?_
                    rotate_left
                    · (go_simp; first | done | with_reducible rfl | rfl | omega | assumption | (simp; omega))
                    (try simp only [Act.put, aP, aZ, aS])
                    refine pl_eff rfl (fun Kp hKp => ?_)
                    go_simp
                    ((refine (demand_bad _).mono ?_); rintro e65 w65 ⟨rfl, rfl⟩)
                    -- it panics
                    obtain rfl : β = false := by rw [← Hβ.out, Bool.eq_false_iff]; intro hh; rw [rightP_iff] at hh; simp only [okNums, decide_eq_true_eq] at hh; omega
                    exact ⟨rfl, rfl, (by assumption : Sat w0 _ _).pick (by (repeat (first | exact Pick.nil _ | exact Pick.tail _ | exact Out.here _ | apply Out.there | apply Pick.cons | apply Pick.drop)))⟩
                · refine pl_take (v := .bool false) (by kernel_rfl) ?_ ?_
                  · (go_simp; first | done | with_reducible rfl | rfl | omega | assumption | (simp; omega))
                  (try simp only [Act.put, aP, aZ, aS])
                  refine pl_take (v := .bool false) rfl ?_ ?_
                  · (go_simp; first | done | with_reducible rfl | rfl | omega | assumption | (simp; omega))
                  (try simp only [Act.put, aP, aZ, aS])
                  refine pl_take (v := ?_) rfl ?_ ?_
                  rotate_left
                  · (go_simp; first | done | with_reducible rfl | rfl | omega | assumption | (simp; omega))
                  (try simp only [Act.put, aP, aZ, aS])
                  refine pl_eff rfl (fun Kp hKp => ?_)
                  go_simp
                  ((refine (demand_bad _).mono ?_); rintro e46 w46 ⟨rfl, rfl⟩)
                  -- it panics
                  obtain rfl : β = false := by rw [← Hβ.out, Bool.eq_false_iff]; intro hh; rw [rightP_iff] at hh; simp only [okNums, decide_eq_true_eq] at hh; omega
                  exact ⟨rfl, rfl, (by assumption : Sat w0 _ _).pick (by (repeat (first | exact Pick.nil _ | exact Pick.tail _ | exact Out.here _ | apply Out.there | apply Pick.cons | apply Pick.drop)))⟩
              · refine pl_take (v := .bool false) (by kernel_rfl) ?_ ?_
                · (go_simp; first | done | with_reducible rfl | rfl | omega | assumption | (simp; omega))
                (try simp only [Act.put, aP, aZ, aS])
                iterate 2 (refine pl_take (v := .bool false) rfl ?_ ?_; (· (go_simp; first | done | with_reducible rfl | rfl | omega | assumption | (simp; omega))); (try simp only [Act.put, aP, aZ, aS]))
                iterate 3 (refine pl_skip (by kernel_rfl) ?_; (try simp only [Act.put, aP, aZ, aS]))
                refine pl_take (v := .bool false) rfl ?_ ?_
                · (go_simp; first | done | with_reducible rfl | rfl | omega | assumption | (simp; omega))
                (try simp only [Act.put, aP, aZ, aS])
                refine pl_take (v := ?_) rfl ?_ ?_
                rotate_left
                · (go_simp; first | done | with_reducible rfl | rfl | omega | assumption | (simp; omega))
                (try simp only [Act.put, aP, aZ, aS])
                refine pl_eff rfl (fun Kp hKp => ?_)
                go_simp
                ((refine (demand_bad _).mono ?_); rintro e46 w46 ⟨rfl, rfl⟩)
                -- it panics
                obtain rfl : β = false := by rw [← Hβ.out, Bool.eq_false_iff]; intro hh; rw [rightP_iff] at hh; simp only [okNums, decide_eq_true_eq] at hh; omega
                exact ⟨rfl, rfl, (by assumption : Sat w0 _ _).pick (by (repeat (first | exact Pick.nil _ | exact Pick.tail _ | exact Out.here _ | apply Out.there | apply Pick.cons | apply Pick.drop)))⟩
            · refine pl_take (v := .bool false) (by kernel_rfl) ?_ ?_
              · (go_simp; first | done | with_reducible rfl | rfl | omega | assumption | (simp; omega))
              (try simp only [Act.put, aP, aZ, aS])
              iterate 2 (refine pl_take (v := .bool false) rfl ?_ ?_; (· (go_simp; first | done | with_reducible rfl | rfl | omega | assumption | (simp; omega))); (try simp only [Act.put, aP, aZ, aS]))
              iterate 3 (refine pl_skip (by kernel_rfl) ?_; (try simp only [Act.put, aP, aZ, aS]))
              iterate 2 (refine pl_take (v := .bool false) rfl ?_ ?_; (· (go_simp; first | done | with_reducible rfl | rfl | omega | assumption | (simp; omega))); (try simp only [Act.put, aP, aZ, aS]))
              iterate 3 (refine pl_skip (by kernel_rfl) ?_; (try simp only [Act.put, aP, aZ, aS]))
              refine pl_take (v := .bool false) rfl ?_ ?_
              · (go_simp; first | done | with_reducible rfl | rfl | omega | assumption | (simp; omega))
              (try simp only [Act.put, aP, aZ, aS])
              refine pl_take (v := ?_) rfl ?_ ?_
              rotate_left
              · (go_simp; first | done | with_reducible rfl | rfl | omega | assumption | (simp; omega))
              (try simp only [Act.put, aP, aZ, aS])
              refine pl_eff rfl (fun Kp hKp => ?_)
              go_simp
              ((refine (demand_bad _).mono ?_); rintro e46 w46 ⟨rfl, rfl⟩)
              -- it panics
              obtain rfl : β = false := by rw [← Hβ.out, Bool.eq_false_iff]; intro hh; rw [rightP_iff] at hh; simp only [okNums, decide_eq_true_eq] at hh; omega
              exact ⟨rfl, rfl, (by assumption : Sat w0 _ _).pick (by (repeat (first | exact Pick.nil _ | exact Pick.tail _ | exact Out.here _ | apply Out.there | apply Pick.cons | apply Pick.drop)))⟩
          · refine pl_take (v := .bool false) (by kernel_rfl) ?_ ?_
            · (go_simp; first | done | with_reducible rfl | rfl | omega | assumption | (simp; omega))
            (try simp only [Act.put, aP, aZ, aS])
            iterate 2 (refine pl_take (v := .bool false) rfl ?_ ?_; (· (go_simp; first | done | with_reducible rfl | rfl | omega | assumption | (simp; omega))); (try simp only [Act.put, aP, aZ, aS]))
            iterate 3 (refine pl_skip (by kernel_rfl) ?_; (try simp only [Act.put, aP, aZ, aS]))
            iterate 2 (refine pl_take (v := .bool false) rfl ?_ ?_; (· (go_simp; first | done | with_reducible rfl | rfl | omega | assumption | (simp; omega))); (try simp only [Act.put, aP, aZ, aS]))
            iterate 3 (refine pl_skip (by kernel_rfl) ?_; (try simp only [Act.put, aP, aZ, aS]))
            iterate 2 (refine pl_take (v := .bool false) rfl ?_ ?_; (· (go_simp; first | done | with_reducible rfl | rfl | omega | assumption | (simp; omega))); (try simp only [Act.put, aP, aZ, aS]))
            iterate 3 (refine pl_skip (by kernel_rfl) ?_; (try simp only [Act.put, aP, aZ, aS]))
            refine pl_take (v := .bool false) rfl ?_ ?_
            · (go_simp; first | done | with_reducible rfl | rfl | omega | assumption | (simp; omega))
            (try simp only [Act.put, aP, aZ, aS])
            refine pl_take (v := ?_) rfl ?_ ?_
            rotate_left
            · (go_simp; first | done | with_reducible rfl | rfl | omega | assumption | (simp; omega))
            (try simp only [Act.put, aP, aZ, aS])
            refine pl_eff rfl (fun Kp hKp => ?_)
            go_simp
            ((refine (demand_bad _).mono ?_); rintro e46 w46 ⟨rfl, rfl⟩)
            -- it panics
            obtain rfl : β = false := by rw [← Hβ.out, Bool.eq_false_iff]; intro hh; rw [rightP_iff] at hh; simp only [okNums, decide_eq_true_eq] at hh; omega
            exact ⟨rfl, rfl, (by assumption : Sat w0 _ _).pick (by (repeat (first | exact Pick.nil _ | exact Pick.tail _ | exact Out.here _ | apply Out.there | apply Pick.cons | apply Pick.drop)))⟩
        · refine pl_take (v := .bool false) (by kernel_rfl) ?_ ?_
          · (go_simp; first | done | with_reducible rfl | rfl | omega | assumption | (simp; omega))
          (try simp only [Act.put, aP, aZ, aS])
          iterate 2 (refine pl_take (v := .bool false) rfl ?_ ?_; (· (go_simp; first | done | with_reducible rfl | rfl | omega | assumption | (simp; omega))); (try simp only [Act.put, aP, aZ, aS]))
          iterate 3 (refine pl_skip (by kernel_rfl) ?_; (try simp only [Act.put, aP, aZ, aS]))
          iterate 2 (refine pl_take (v := .bool false) rfl ?_ ?_; (· (go_simp; first | done | with_reducible rfl | rfl | omega | assumption | (simp; omega))); (try simp only [Act.put, aP, aZ, aS]))
          iterate 3 (refine pl_skip (by kernel_rfl) ?_; (try simp only [Act.put, aP, aZ, aS]))
          iterate 2 (refine pl_take (v := .bool false) rfl ?_ ?_; (· (go_simp; first | done | with_reducible rfl | rfl | omega | assumption | (simp; omega))); (try simp only [Act.put, aP, aZ, aS]))
          iterate 3 (refine pl_skip (by kernel_rfl) ?_; (try simp only [Act.put, aP, aZ, aS]))
          iterate 2 (refine pl_take (v := .bool false) rfl ?_ ?_; (· (go_simp; first | done | with_reducible rfl | rfl | omega | assumption | (simp; omega))); (try simp only [Act.put, aP, aZ, aS]))
          iterate 3 (refine pl_skip (by kernel_rfl) ?_; (try simp only [Act.put, aP, aZ, aS]))
          refine pl_take (v := .bool false) rfl ?_ ?_
          · (go_simp; first | done | with_reducible rfl | rfl | omega | assumption | (simp; omega))
          (try simp only [Act.put, aP, aZ, aS])
          refine pl_take (v := ?_) rfl ?_ ?_
          rotate_left
          · (go_simp; first | done | with_reducible rfl | rfl | omega | assumption | (simp; omega))
          (try simp only [Act.put, aP, aZ, aS])
          refine pl_eff rfl (fun Kp hKp => ?_)
          go_simp
          ((refine (demand_bad _).mono ?_); rintro e46 w46 ⟨rfl, rfl⟩)
          -- it panics
          obtain rfl : β = false := by rw [← Hβ.out, Bool.eq_false_iff]; intro hh; rw [rightP_iff] at hh; simp only [okNums, decide_eq_true_eq] at hh; omega
          exact ⟨rfl, rfl, (by assumption : Sat w0 _ _).pick (by (repeat (first | exact Pick.nil _ | exact Pick.tail _ | exact Out.here _ | apply Out.there | apply Pick.cons | apply Pick.drop)))⟩
      · refine pl_take (v := .bool false) (by kernel_rfl) ?_ ?_
        · (go_simp; first | done | with_reducible rfl | rfl | omega | assumption | (simp; omega))
        (try simp only [Act.put, aP, aZ, aS])
        iterate 2 (refine pl_take (v := .bool false) rfl ?_ ?_; (· (go_simp; first | done | with_reducible rfl | rfl | omega | assumption | (simp; omega))); (try simp only [Act.put, aP, aZ, aS]))
        iterate 3 (refine pl_skip (by kernel_rfl) ?_; (try simp only [Act.put, aP, aZ, aS]))
        iterate 2 (refine pl_take (v := .bool false) rfl ?_ ?_; (· (go_simp; first | done | with_reducible rfl | rfl | omega | assumption | (simp; omega))); (try simp only [Act.put, aP, aZ, aS]))
        iterate 3 (refine pl_skip (by kernel_rfl) ?_; (try simp only [Act.put, aP, aZ, aS]))
        iterate 2 (refine pl_take (v := .bool false) rfl ?_ ?_; (· (go_simp; first | done | with_reducible rfl | rfl | omega | assumption | (simp; omega))); (try simp only [Act.put, aP, aZ, aS]))
        iterate 3 (refine pl_skip (by kernel_rfl) ?_; (try simp only [Act.put, aP, aZ, aS]))
        iterate 2 (refine pl_take (v := .bool false) rfl ?_ ?_; (· (go_simp; first | done | with_reducible rfl | rfl | omega | assumption | (simp; omega))); (try simp only [Act.put, aP, aZ, aS]))
        iterate 3 (refine pl_skip (by kernel_rfl) ?_; (try simp only [Act.put, aP, aZ, aS]))
        iterate 2 (refine pl_take (v := .bool false) rfl ?_ ?_; (· (go_simp; first | done | with_reducible rfl | rfl | omega | assumption | (simp; omega))); (try simp only [Act.put, aP, aZ, aS]))
        iterate 3 (refine pl_skip (by kernel_rfl) ?_; (try simp only [Act.put, aP, aZ, aS]))
        refine pl_take (v := .bool false) rfl ?_ ?_
        · (go_simp; first | done | with_reducible rfl | rfl | omega | assumption | (simp; omega))
        (try simp only [Act.put, aP, aZ, aS])
        refine pl_take (v := ?_) rfl ?_ ?_
        rotate_left
        · (go_simp; first | done | with_reducible rfl | rfl | omega | assumption | (simp; omega))
        (try simp only [Act.put, aP, aZ, aS])
        refine pl_eff rfl (fun Kp hKp => ?_)
        go_simp
        ((refine (demand_bad _).mono ?_); rintro e46 w46 ⟨rfl, rfl⟩)
        -- it panics
        obtain rfl : β = false := by rw [← Hβ.out, Bool.eq_false_iff]; intro hh; rw [rightP_iff] at hh; simp only [okNums, decide_eq_true_eq] at hh; omega
        exact ⟨rfl, rfl, (by assumption : Sat w0 _ _).pick (by (repeat (first | exact Pick.nil _ | exact Pick.tail _ | exact Out.here _ | apply Out.there | apply Pick.cons | apply Pick.drop)))⟩
    · refine pl_take (v := .bool false) (by kernel_rfl) ?_ ?_
      · (go_simp; first | done | with_reducible rfl | rfl | omega | assumption | (simp; omega))
      (try simp only [Act.put, aP, aZ, aS])
      iterate 2 (refine pl_take (v := .bool false) rfl ?_ ?_; (· (go_simp; first | done | with_reducible rfl | rfl | omega | assumption | (simp; omega))); (try simp only [Act.put, aP, aZ, aS]))
      iterate 3 (refine pl_skip (by kernel_rfl) ?_; (try simp only [Act.put, aP, aZ, aS]))
      iterate 2 (refine pl_take (v := .bool false) rfl ?_ ?_; (· (go_simp; first | done | with_reducible rfl | rfl | omega | assumption | (simp; omega))); (try simp only [Act.put, aP, aZ, aS]))
      iterate 3 (refine pl_skip (by kernel_rfl) ?_; (try simp only [Act.put, aP, aZ, aS]))
      iterate 2 (refine pl_take (v := .bool false) rfl ?_ ?_; (· (go_simp; first | done | with_reducible rfl | rfl | omega | assumption | (simp; omega))); (try simp only [Act.put, aP, aZ, aS]))
      iterate 3 (refine pl_skip (by kernel_rfl) ?_; (try simp only [Act.put, aP, aZ, aS]))
      iterate 2 (refine pl_take (v := .bool false) rfl ?_ ?_; (· (go_simp; first | done | with_reducible rfl | rfl | omega | assumption | (simp; omega))); (try simp only [Act.put, aP, aZ, aS]))
      iterate 3 (refine pl_skip (by kernel_rfl) ?_; (try simp only [Act.put, aP, aZ, aS]))
      iterate 2 (refine pl_take (v := .bool false) rfl ?_ ?_; (· (go_simp; first | done | with_reducible rfl | rfl | omega | assumption | (simp; omega))); (try simp only [Act.put, aP, aZ, aS]))
      iterate 3 (refine pl_skip (by kernel_rfl) ?_; (try simp only [Act.put, aP, aZ, aS]))
      iterate 2 (refine pl_take (v := .bool false) rfl ?_ ?_; (· (go_simp; first | done | with_reducible rfl | rfl | omega | assumption | (simp; omega))); (try simp only [Act.put, aP, aZ, aS]))
      iterate 3 (refine pl_skip (by kernel_rfl) ?_; (try simp only [Act.put, aP, aZ, aS]))
      refine pl_take (v := .bool false) rfl ?_ ?_
      · (go_simp; first | done | with_reducible rfl | rfl | omega | assumption | (simp; omega))
      (try simp only [Act.put, aP, aZ, aS])
      refine pl_take (v := ?_) rfl ?_ ?_
      rotate_left
      · (go_simp; first | done | with_reducible rfl | rfl | omega | assumption | (simp; omega))
      (try simp only [Act.put, aP, aZ, aS])
      refine pl_eff rfl (fun Kp hKp => ?_)
      go_simp
      ((refine (demand_bad _).mono ?_); rintro e46 w46 ⟨rfl, rfl⟩)
      -- it panics
      obtain rfl : β = false := by rw [← Hβ.out, Bool.eq_false_iff]; intro hh; rw [rightP_iff] at hh; simp only [okNums, decide_eq_true_eq] at hh; omega
      exact ⟨rfl, rfl, (by assumption : Sat w0 _ _).pick (by (repeat (first | exact Pick.nil _ | exact Pick.tail _ | exact Out.here _ | apply Out.there | apply Pick.cons | apply Pick.drop)))⟩
  · refine pl_take (v := .bool false) rfl ?_ ?_
    · (go_simp; first | done | with_reducible rfl | rfl | omega | assumption | (simp; omega))
    (try simp only [Act.put, aP, aZ, aS])
    refine pl_take (v := .bool false) rfl ?_ ?_
    · (go_simp; first | done | with_reducible rfl | rfl | omega | assumption | (simp; omega))
    (try simp only [Act.put, aP, aZ, aS])
    iterate 3 (refine pl_skip (by kernel_rfl) ?_; (try simp only [Act.put, aP, aZ, aS]))
    iterate 2 (refine pl_take (v := .bool false) rfl ?_ ?_; (· (go_simp; first | done | with_reducible rfl | rfl | omega | assumption | (simp; omega))); (try simp only [Act.put, aP, aZ, aS]))
    iterate 3 (refine pl_skip (by kernel_rfl) ?_; (try simp only [Act.put, aP, aZ, aS]))
    iterate 2 (refine pl_take (v := .bool false) rfl ?_ ?_; (· (go_simp; first | done | with_reducible rfl | rfl | omega | assumption | (simp; omega))); (try simp only [Act.put, aP, aZ, aS]))
    iterate 3 (refine pl_skip (by kernel_rfl) ?_; (try simp only [Act.put, aP, aZ, aS]))
    iterate 2 (refine pl_take (v := .bool false) rfl ?_ ?_; (· (go_simp; first | done | with_reducible rfl | rfl | omega | assumption | (simp; omega))); (try simp only [Act.put, aP, aZ, aS]))
    iterate 3 (refine pl_skip (by kernel_rfl) ?_; (try simp only [Act.put, aP, aZ, aS]))
    iterate 2 (refine pl_take (v := .bool false) rfl ?_ ?_; (· (go_simp; first | done | with_reducible rfl | rfl | omega | assumption | (simp; omega))); (try simp only [Act.put, aP, aZ, aS]))
    iterate 3 (refine pl_skip (by kernel_rfl) ?_; (try simp only [Act.put, aP, aZ, aS]))
    iterate 2 (refine pl_take (v := .bool false) rfl ?_ ?_; (· (go_simp; first | done | with_reducible rfl | rfl | omega | assumption | (simp; omega))); (try simp only [Act.put, aP, aZ, aS]))
    iterate 3 (refine pl_skip (by kernel_rfl) ?_; (try simp only [Act.put, aP, aZ, aS]))
    iterate 2 (refine pl_take (v := .bool false) rfl ?_ ?_; (· (go_simp; first | done | with_reducible rfl | rfl | omega | assumption | (simp; omega))); (try simp only [Act.put, aP, aZ, aS]))
    iterate 3 (refine pl_skip (by kernel_rfl) ?_; (try simp only [Act.put, aP, aZ, aS]))
    refine pl_take (v := .bool false) rfl ?_ ?_
    · (go_simp; first | done | with_reducible rfl | rfl | omega | assumption | (simp; omega))
    (try simp only [Act.put, aP, aZ, aS])
    refine pl_take (v := ?_) rfl ?_ ?_
    rotate_left
    · (go_simp; first | done | with_reducible rfl | rfl | omega | assumption | (simp; omega))
    (try simp only [Act.put, aP, aZ, aS])
    refine pl_eff rfl (fun Kp hKp => ?_)
    go_simp
    ((refine (demand_bad _).mono ?_); rintro e46 w46 ⟨rfl, rfl⟩)
    -- it panics
    obtain rfl : β = false := by rw [← Hβ.out, Bool.eq_false_iff]; intro hh; rw [rightP_iff] at hh; simp only [okNums, decide_eq_true_eq] at hh; omega
    exact ⟨rfl, rfl, (by assumption : Sat w0 _ _).pick (by (repeat (first | exact Pick.nil _ | exact Pick.tail _ | exact Out.here _ | apply Out.there | apply Pick.cons | apply Pick.drop)))⟩
end Go.Proofs.Ytcedbmcnjckajaa
