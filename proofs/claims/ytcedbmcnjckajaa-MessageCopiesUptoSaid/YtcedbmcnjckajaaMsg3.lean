/-
  Messages: what catches what the program gives up with.
-/
import Derived.Test.YtcedbmcnjckajaaMsg2
import Derived.Defers
import Derived.Recover
namespace Go.Proofs.Ytcedbmcnjckajaa
open Go Go.RowKit Sl Go.Shelf
set_option maxHeartbeats 1000000
set_option maxRecDepth 8000

theorem caught_bytes {w0 w : World} {L : List HP} {px pe : Nat} {vx ve : Value} (v : Int) (hs : Sat w0 w (blk px (.cells #[vx] 24 (0, 0)) :: blk pe (.cells #[ve] 29 (0, 0)) :: L)) :
    CallsD Try.prog 21 #[.pointer (some ⟨px, 0, none⟩), .pointer (some ⟨pe, 0, none⟩)] (.panicking (quitV v)) w fun r u' w' =>
      r = .returned (.tuple #[]) ∧ u' = .panicking [{ v := .iface 29 (.int .i64 v), recovered := true }] ∧ Sat w0 w' (blk pe (.cells #[.int .i64 v] 29 (0, 0)) :: blk px (.cells #[.slice none 0 0] 24 (0, 0)) :: L) := by
  refine callsD_of_wpS Try.func21 rfl fun c₀ cs hu => ?_
  apply wpS_seq
  apply wpS_region
  simp [wpOpsS, go_sem, recoverD, hu, quitV, Try.ntmps21, Exit.thenS]
  refine wpS_of_wp ?_
  simp only [Array.replicate_succ, Array.replicate_zero, List.push_toArray, List.append_toArray, List.nil_append, List.cons_append, List.setIfInBounds_toArray, List.set_cons_succ, List.set_cons_zero]
  refine wk_seq (fun K1 hK1 => ?_)
  refine wk_reg ?_
  refine pl_take (v := ?_) rfl ?_ ?_
  rotate_left
  · (go_simp; first | done | with_reducible rfl | rfl | omega | assumption | (simp; omega))
  (try simp only [Act.put, aP, aZ, aS])
  refine pl_take (v := .bool true) rfl ?_ ?_
  · (go_simp; first | done | with_reducible rfl | rfl | omega | assumption | (simp; omega))
  (try simp only [Act.put, aP, aZ, aS])
  refine pl_done ?_
  refine hK1.out _ _ ?_
  (try clear hK1 K1)
  refine wp_cond_true rfl ?_
  refine wk_seq (fun K2 hK2 => ?_)
  refine wk_reg ?_
  refine pl_take (v := ?_) rfl ?_ ?_
  rotate_left
  · (go_simp; first | done | with_reducible rfl | rfl | omega | assumption | (simp; omega))
  (try simp only [Act.put, aP, aZ, aS])
  refine pl_done ?_
  refine hK2.out _ _ ?_
  (try clear hK2 K2)
  refine rg_start2 (L := L) rfl (by assumption) (by (repeat (first | exact Pick.nil _ | with_reducible exact Pick.tail _ | with_reducible exact Out.here _ | apply Out.there | apply Pick.cons | apply Pick.drop))) (fun wr3 hsr3 hsq3 => ?_)
  have hsz3 := hsr3
  refine rg_take (i := 0) (v := ?_) rfl (by kernel_rfl) (by kernel_rfl) (by kernel_rfl) (fun _ _ _ h => h) rfl (by assumption) ?_ ?_
  rotate_left
  · intro w hSw; (go_simp; first | done | with_reducible rfl | rfl | omega | assumption | (simp; omega))
  (try simp only [Act.put, aP, aZ, aS])
  refine rg_take (i := 1) (v := ?_) rfl (by kernel_rfl) (by kernel_rfl) (by kernel_rfl) (fun _ _ _ h => h) rfl (by assumption) ?_ ?_
  rotate_left
  · intro w hSw; (go_simp; first | done | with_reducible rfl | rfl | omega | assumption | (simp; omega))
  (try simp only [Act.put, aP, aZ, aS])
  refine rg_take (i := 2) (v := ?_) rfl (by kernel_rfl) (by kernel_rfl) (by kernel_rfl) (fun _ _ _ h => h) rfl (by assumption) ?_ ?_
  rotate_left
  · intro w hSw; (go_simp; first | done | with_reducible rfl | rfl | omega | assumption | (simp; omega))
  (try simp only [Act.put, aP, aZ, aS])
  refine rg_take (i := 3) (v := ?_) rfl (by kernel_rfl) (by kernel_rfl) (by kernel_rfl) (fun _ _ _ h => h) rfl (by assumption) ?_ ?_
  rotate_left
  · intro w hSw; (go_simp; first | done | with_reducible rfl | rfl | omega | assumption | (simp; omega))
  (try simp only [Act.put, aP, aZ, aS])
  refine rg_take (i := 4) (v := ?_) rfl (by kernel_rfl) (by kernel_rfl) (by kernel_rfl) (fun _ _ _ h => h) rfl (by assumption) ?_ ?_
  rotate_left
  · intro w hSw; (go_simp; first | done | with_reducible rfl | rfl | omega | assumption | (simp; omega))
  (try simp only [Act.put, aP, aZ, aS])
  refine rg_take (i := 5) (v := ?_) rfl (by kernel_rfl) (by kernel_rfl) (by kernel_rfl) (fun _ _ _ h => h) rfl (by assumption) ?_ ?_
  rotate_left
  · intro w hSw; (go_simp; first | done | with_reducible rfl | rfl | omega | assumption | (simp; omega))
  (try simp only [Act.put, aP, aZ, aS])
  refine rg_one (i := 6) (by kernel_rfl) rfl rfl (fun Kp hKp => ?_)
  (first | ((with_reducible apply st_store1); assumption; rfl; (go_simp; rfl); (repeat (first | with_reducible exact Out.here _ | apply Out.there)); rfl; rfl; simp; intro wr3_6 hsr3_6; (try simp only [aP] at hsr3_6); (try simp only [aS] at hsr3_6); (try simp only [aZ] at hsr3_6)) | ((with_reducible apply st_store_own); assumption; rfl; (go_simp; rfl); (repeat (first | with_reducible exact Out.here _ | apply Out.there)); rfl; rfl; omega; intro wr3_6 hsr3_6))
  refine rg_back (hK := hKp) ?_ (fun hskr3_6 => ?_)
  · (first | assumption | (apply Sat.drew; assumption) | (apply Sat.pick; assumption; (repeat (first | exact Pick.nil _ | with_reducible exact Pick.tail _ | with_reducible exact Out.here _ | apply Out.there | apply Pick.cons | apply Pick.drop))))
  clear hKp Kp
  have hszr3_6 := hsr3_6
  (try dsimp only [Act.put])
  refine rg_take (i := 7) (v := ?_) rfl (by kernel_rfl) (by kernel_rfl) (by kernel_rfl) (fun _ _ _ h => h) rfl (by assumption) ?_ ?_
  rotate_left
  · intro w hSw; (go_simp; first | done | with_reducible rfl | rfl | omega | assumption | (simp; omega))
  (try simp only [Act.put, aP, aZ, aS])
  refine rg_one (i := 8) (by kernel_rfl) rfl rfl (fun Kp hKp => ?_)
  (first | ((with_reducible apply st_store1); assumption; rfl; (go_simp; rfl); (repeat (first | with_reducible exact Out.here _ | apply Out.there)); rfl; rfl; simp; intro wr3_8 hsr3_8; (try simp only [aP] at hsr3_8); (try simp only [aS] at hsr3_8); (try simp only [aZ] at hsr3_8)) | ((with_reducible apply st_store_own); assumption; rfl; (go_simp; rfl); (repeat (first | with_reducible exact Out.here _ | apply Out.there)); rfl; rfl; omega; intro wr3_8 hsr3_8))
  refine rg_back (hK := hKp) ?_ (fun hskr3_8 => ?_)
  · (first | assumption | (apply Sat.drew; assumption) | (apply Sat.pick; assumption; (repeat (first | exact Pick.nil _ | with_reducible exact Pick.tail _ | with_reducible exact Out.here _ | apply Out.there | apply Pick.cons | apply Pick.drop))))
  clear hKp Kp
  have hszr3_8 := hsr3_8
  (try dsimp only [Act.put])
  refine rg_done (by kernel_rfl) ?_
  -- the end
  have hfin : Sat w0 _ (blk pe (.cells #[.int .i64 v] 29 (0, 0)) :: blk px (.cells #[.slice none 0 0] 24 (0, 0)) :: L) := hsr3_8.pick (by (repeat (first | exact Pick.nil _ | exact Pick.tail _ | exact Out.here _ | apply Out.there | apply Pick.cons | apply Pick.drop)))
  simp [bodyPostS, results, Try.results21]
  exact hfin

theorem caught_bytes_idle {w : World} {px pe : Nat} :
    CallsD Try.prog 21 #[.pointer (some ⟨px, 0, none⟩), .pointer (some ⟨pe, 0, none⟩)] .returning w fun r u' w' =>
      r = .returned (.tuple #[]) ∧ u' = .returning ∧ w = w' := by
  refine callsD_of_wpS Try.func21 rfl fun c₀ cs hu => ?_
  apply wpS_seq
  apply wpS_region
  simp [wpOpsS, go_sem, recoverD, hu, Try.ntmps21, Exit.thenS]
  refine wpS_of_wp ?_
  simp only [Array.replicate_succ, Array.replicate_zero, List.push_toArray, List.append_toArray, List.nil_append, List.cons_append, List.setIfInBounds_toArray, List.set_cons_succ, List.set_cons_zero]
  refine wk_seq (fun K1 hK1 => ?_)
  refine wk_reg ?_
  refine pl_take (v := ?_) rfl ?_ ?_
  rotate_left
  · (go_simp; first | done | with_reducible rfl | rfl | omega | assumption | (simp; omega))
  (try simp only [Act.put, aP, aZ, aS])
  refine pl_take (v := .bool false) rfl ?_ ?_
  · (go_simp; first | done | with_reducible rfl | rfl | omega | assumption | (simp; omega))
  (try simp only [Act.put, aP, aZ, aS])
  refine pl_done ?_
  refine hK1.out _ _ ?_
  (try clear hK1 K1)
  refine wp_cond_false rfl ?_
  refine wp_skip ?_
  -- the end
  cases c₀
  simp_all [bodyPostS, results, Try.results21]

/-- What leaves a frame hangs on its results alone. -/
theorem leaves_tmps {P : Program} {fn : Func} {R : Ending → World → Prop} {tmps tmps' : Array Value} (h : results fn tmps = results fn tmps') : ∀ {ds : List Deferred} {u : FrameMode} {w : World}, Leaves P fn tmps R ds u w → Leaves P fn tmps' R ds u w
  | [], .returning, _, ⟨v, h1, h2⟩ => ⟨v, by rw [← h]; exact h1, h2⟩
  | [], .panicking _, _, h => h
  | [], .run, _, h => h
  | _ :: _, _, _, ⟨hu, fv, cap, f, args, e1, e2, hc⟩ => ⟨hu, fv, cap, f, args, e1, e2, hc.mono fun e u' w' he => by
      cases e with
      | returned _ => exact leaves_tmps h he
      | panicked _ => exact leaves_tmps h he
      | outgrown => exact he⟩

theorem results_two {fn : Func} {s t : Tmp} {T U : TypeId} (hf : fn.results = #[.cell s T, .cell t U]) (a : Act) (dst : Option Tmp) (v : Value) (h1 : dst ≠ some s) (h2 : dst ≠ some t) : results fn (a.put dst v).tmps = results fn a.tmps := by
  cases dst with
  | none => rfl
  | some d =>
    have e1 : d ≠ s := fun e => h1 (by rw [e])
    have e2 : d ≠ t := fun e => h2 (by rw [e])
    simp [results, hf, Act.put, e1, e2]

theorem quit_put {P : Program} {fn : Func} {R : Ending → World → Prop} {s t : Tmp} {T U : TypeId} (hf : fn.results = #[.cell s T, .cell t U]) {c : List PanicEntry} {a : Act} {w : World} {dst : Option Tmp} {v : Value} (h1 : dst ≠ some s) (h2 : dst ≠ some t)
    (h : bodyPostD P fn R (.panic c) (a.put dst v) w) : bodyPostD P fn R (.panic c) a w := by
  have e : (a.put dst v).defers = a.defers := by cases dst <;> rfl
  have h' : Leaves P fn (a.put dst v).tmps R (a.put dst v).defers (.panicking c) w := h
  rw [e] at h'
  exact leaves_tmps (results_two hf a dst v h1 h2) h'
end Go.Proofs.Ytcedbmcnjckajaa
