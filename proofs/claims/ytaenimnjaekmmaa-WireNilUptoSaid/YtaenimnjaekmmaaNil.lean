/-
  WireNil: no reader, and one that nobody made.
-/
import Derived.Test.YtaenimnjaekmmaaWire9
import Derived.Test.YtaenimnjaekmmaaOpen
namespace Go.Proofs.Ytaenimnjaekmmaa
open Go Go.RowKit Sl Go.Shelf
attribute [local go_sem] Oper.semAt_some

/-- The reader v is none. -/
def Un (v : Value) (w : World) : Prop := Calls Try.prog 48 #[v] w fun r w' => r = .returned (.bool true) ∧ w = w'

theorem un_nil (w : World) : Un (.pointer none) w := by
  unfold Un
  go_enter Try.func48, Try.ntmps48
  go_wp2
  go_ret
  exact ⟨rfl, rfl⟩

theorem un_number {v : Value} {w : World} (h : Un v w) : Calls Try.prog 24 #[v] w fun r w' => r = .returned (.int .i64 0) ∧ w = w' := by
  (refine calls_of_marks Try.func24 rfl ?_; simp only [Try.ntmps24, List.size_toArray, List.length_cons, List.length_nil, Nat.reduceAdd, Nat.reduceSub, Array.replicate_succ, Array.replicate_zero, List.push_toArray, List.append_toArray, List.nil_append, List.cons_append])
  go_wp2_with (first | (go_at_call 48; refine h.mono ?_; rintro e' w' ⟨rfl, rfl⟩) | fail)
  exact leave_plain (results_tmp rfl _ _ _) ⟨rfl, rfl⟩

theorem un_left {v : Value} {w : World} (h : Un v w) : Calls Try.prog 25 #[v] w fun r w' => r = .returned (.int .i64 0) ∧ w = w' := by
  go_enter Try.func25, Try.ntmps25
  go_wp2_with (first | (go_at_call 48; refine h.mono ?_; rintro e' w' ⟨rfl, rfl⟩) | fail)
  go_ret
  exact ⟨rfl, rfl⟩

theorem un_bytes {v : Value} {w : World} (h : Un v w) : Calls Try.prog 26 #[v] w fun r w' => r = .returned (.slice none 0 0) ∧ w = w' := by
  go_enter Try.func26, Try.ntmps26
  go_wp2_with (first | (go_at_call 48; refine h.mono ?_; rintro e' w' ⟨rfl, rfl⟩) | fail)
  go_ret
  exact ⟨rfl, rfl⟩

theorem un_err {v : Value} {w : World} (h : Un v w) : Calls Try.prog 27 #[v] w fun r w' => r = .returned (.int .i64 1) ∧ w = w' := by
  go_enter Try.func27, Try.ntmps27
  go_wp2_with (first | (go_at_call 48; refine h.mono ?_; rintro e' w' ⟨rfl, rfl⟩) | fail)
  go_ret
  exact ⟨rfl, rfl⟩

theorem un_end {v : Value} {w : World} (h : Un v w) : Calls Try.prog 28 #[v] w fun r w' => r = .returned (.int .i64 1) ∧ w = w' := by
  go_enter Try.func28, Try.ntmps28
  go_wp2_with (first | (go_at_call 27; refine (un_err h).mono ?_; rintro e' w' ⟨rfl, rfl⟩) | fail)
  go_ret
  exact ⟨rfl, rfl⟩

set_option maxHeartbeats 1000000 in
theorem wireNil_walk {w0 w : World} {L : List HP} (hs : Sat w0 w L) : Calls Try.prog 5 #[] w (RetB w0 L true) := by
  have hu := un_nil w
  go_enter Try.func5, Try.ntmps5
  go_wp2_with fail
  go_loopw [1, 2] (fun v i wr => ∃ k : Nat, i = .int .i64 k ∧ k ≤ 2 ∧ Un v wr ∧ Sat w0 wr L) (fun _ i _ => 2 - (intOf i).toNat)
  case atStart => exact ⟨0, rfl, by omega, hu, hs⟩
  case round =>
    obtain ⟨k, rfl, hk, hu2, hs2⟩ := hrel
    clear hs hu
    by_cases hk2 : k < 2
    · go_wp2_with (first | (go_at_call 24; refine (un_number hu2).mono ?_; rintro e' w' ⟨rfl, rfl⟩) | (go_at_call 25; refine (un_left hu2).mono ?_; rintro e' w' ⟨rfl, rfl⟩) | (go_at_call 26; refine (un_bytes hu2).mono ?_; rintro e' w' ⟨rfl, rfl⟩) | (go_at_call 27; refine (un_err hu2).mono ?_; rintro e' w' ⟨rfl, rfl⟩) | (go_at_call 28; refine (un_end hu2).mono ?_; rintro e' w' ⟨rfl, rfl⟩) | (go_at_call 15; refine (errnum_spec _).mono ?_; rintro e' w' ⟨rfl, rfl⟩) | ((with_reducible apply wl_box); assumption; (go_simp; rfl); intro b w1 hs1; simp only [Value.cells] at hs1) | (first | ((with_reducible apply wl_unguard); rfl) | ((with_reducible apply wl_buildSlice); assumption; rfl; (go_simp; rfl); (simp [Value.cells]); omega; intro b w1 hs1) | ((with_reducible apply wl_append); go_must (assumption; rfl; rfl; (repeat (first | exact Out.here _ | apply Out.there)); (repeat (first | assumption | exact Rd.own | exact Rd.nil | apply Rd.cons)); (first | exact B8_one _ | (simp [Value.oneCell'])); (first | omega | (simp only [maxLen]; omega)); omega; intro A1 c1 w1 hs1 hc1; (try ((refine hs1.own_elim ?_ ?_); omega; rintro g1 rfl)); try simp only [Nat.zero_add, List.nil_append] at hs1 hc1)) | ((with_reducible apply wl_store_own); assumption; rfl; (go_simp; rfl); (repeat (first | exact Out.here _ | apply Out.there)); rfl; rfl; omega; intro w1 hs1) | ((with_reducible apply wl_store1); assumption; rfl; (go_simp; rfl); (repeat (first | exact Out.here _ | apply Out.there)); rfl; rfl; simp; intro w1 hs1; (try simp only [List.setIfInBounds_toArray] at hs1); (try simp only [List.set_cons_succ] at hs1); (try simp only [List.set_cons_zero] at hs1)) | ((with_reducible apply wl_load); assumption; rfl; (repeat (first | assumption | exact Cl.blk rfl | apply Cl.cons))) | ((with_reducible apply wl_b2s); assumption; rfl; (repeat (first | assumption | exact Rd.own | exact Rd.nil | apply Rd.cons)); first | rfl | (simp [B8_app]))) | fail)
      go_roundw
      case rel => exact ⟨k + 1, by go_num, by omega, none_spec hs1 (.here _), hs1.tail⟩
      case measure => simp [intOf]; omega
    · go_wp2_with (first | (go_at_call 18; refine (knows_spec hs2).mono ?_; rintro e w5 ⟨rfl, hs5⟩) | fail)
      go_ret
      exact ⟨rfl, hs5⟩
end Go.Proofs.Ytaenimnjaekmmaa

namespace Go.Proofs.Ytaenimnjaekmmaa.wireNil
open Go Go.RowKit Sl Go.Deep Go.ChangeShapes Go.WideShapes Go.ChangeAt

theorem own : ownKnob Try.prog.godebug = none := by kernel_rfl
theorem laid : laidOutB Try.prog = true := by kernel_rfl

theorem contract (H : Type) (enc : TypeId × Value → H) (W : World) (base : Nat) (args : Array Value) (ds gs : List (DataW H)) (before : List MemPlace)
    (hval : ∀ (j : Nat) t v, Try.f5.params[j]? = some t → args[j]? = some v → Value.okWide Try.prog W .any base t v)
    (hW : DataW.Whole enc Try.prog Try.f5.params.toList Rows.wireNilSpec.vars false W args.toList ds gs before) (hk : Rows.uptoSmall H (ds ++ gs) = true) :
    Calls Try.prog 5 args W fun e W' => ∃ v, e = .returned v ∧ Rows.wireNilSpec.post enc Try.prog Try.f5 false true false false W args v W' := by
  have hW' := hW
  obtain ⟨p, q, hA, hV, rfl, hfz, hnd⟩ := hW
  rw [show Try.f5.params.toList = [] from rfl] at hA
  obtain ⟨hargs, rfl, rfl⟩ := trodAll_nil hA
  obtain rfl : args = #[] := by cases args; simp_all
  obtain ⟨rfl, rfl⟩ := trodVars_none hV
  refine (wireNil_walk (Sat.start W)).mono fun e W' h => ?_
  obtain ⟨rfl, hs⟩ := h
  exact ⟨_, rfl, law_post hW' laid (by kernel_rfl) rfl (by kernel_rfl) Try.underlying4 rfl rfl rfl (hs.below (.here _))⟩

set_option maxRecDepth 100000 in
theorem lifted (os : Os) (started : os.Started) (H : Type) (enc : TypeId × Value → H) (F : Stop.Interp) :
    ReturnsInHanded {} Try.checked os 5 .any ((Rows.OpenSpec.upto Rows.wireNilSpec).pre6 enc Try.prog Try.f5 Rows.wireNilUptoRow.domain false) (((Rows.OpenSpec.upto Rows.wireNilSpec).at F).post enc Try.prog Try.f5 false true false false) := by
  refine returnsInHanded_of_cond (C := Try.checked) (s := Rows.OpenSpec.upto Rows.wireNilSpec) (k := Rows.uptoSmall) rfl own started (by kernel_rfl) Try.func5
    (OpenSpec.witness (enc := enc) (C := Try.checked) (s := Rows.OpenSpec.upto Rows.wireNilSpec) (k := Rows.uptoSmall) rfl false ⟨#[], #[], []⟩ 8 (by kernel_rfl) (by kernel_rfl) (by kernel_rfl)
      (x := ([], [], [])) (by kernel_rfl) rfl (by kernel_rfl)) ?_
  intro W base args ds gs before hval hW _ hk _
  exact contract H enc W base args ds gs before hval hW hk

/-- The law returns true. -/
theorem proved : Rows.WireNilUptoSaid :=
  OpenClaim.holds_of_cond 5 Try.f5 rfl rfl rfl rfl rfl rfl rfl ⟨rfl, rfl, rfl, rfl, rfl⟩ rfl rfl rfl rfl rfl (by kernel_rfl) Try.func5 (by kernel_rfl)
    (of_decide_eq_true (by kernel_rfl)) (by unfold Func.isWrapper; first | (rw [if_pos (by decide +kernel)]; kernel_rfl) | (rw [if_neg (by decide +kernel)]; exact ⟨rfl, rfl⟩))
    (fun os started H enc _ F => lifted os started H enc F)
#print axioms proved
end Go.Proofs.Ytaenimnjaekmmaa.wireNil
