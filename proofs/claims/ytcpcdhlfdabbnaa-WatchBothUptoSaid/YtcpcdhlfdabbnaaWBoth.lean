/-
  WatchBoth, for all arguments of bulk at most 1048576: whatever comes in, the call returns true and each argument reads as it did.
-/
import Derived.Test.YtcpcdhlfdabbnaaW16
namespace Go.Proofs.Ytcpcdhlfdabbnaa.watchBoth
open Go Go.RowKit Sl Go.Deep Go.ChangeShapes Go.WideShapes Go.ChangeAt

theorem own : ownKnob Try.prog.godebug = none := by kernel_rfl
theorem laid : laidOutB Try.prog = true := by kernel_rfl

set_option maxRecDepth 100000 in
theorem contract (H : Type) (enc : TypeId × Value → H) (W : World) (base : Nat) (args : Array Value) (ds gs : List (DataW H)) (before : List MemPlace)
    (hval : ∀ (j : Nat) t v, Try.f6.params[j]? = some t → args[j]? = some v → Value.okWide Try.prog W .any base t v)
    (hW : DataW.Whole enc Try.prog Try.f6.params.toList Rows.watchBothSpec.vars false W args.toList ds gs before) (hk : Rows.uptoSmall H (ds ++ gs) = true) :
    Calls Try.prog 6 args W fun e W' => ∃ v, e = .returned v ∧ Rows.watchBothSpec.post enc Try.prog Try.f6 false true false false W args v W' := by
  have hW' := hW
  obtain ⟨p, q, hA, hV, rfl, hfz, hnd⟩ := hW
  rw [show Try.f6.params.toList = [32, 32, 48, 48, 3, 3] from rfl] at hA
  rw [Try.params6] at hval
  obtain ⟨v0, vs0, d0, ds0, p0, q0, hargs, rfl, rfl, h0, r0⟩ := trodAll_cons hA
  obtain ⟨v1, vs1, d1, ds1, p1, q1, rfl, rfl, rfl, h1, r1⟩ := trodAll_cons r0
  obtain ⟨v2, vs2, d2, ds2, p2, q2, rfl, rfl, rfl, h2, r2⟩ := trodAll_cons r1
  obtain ⟨v3, vs3, d3, ds3, p3, q3, rfl, rfl, rfl, h3, r3⟩ := trodAll_cons r2
  obtain ⟨v4, vs4, d4, ds4, p4, q4, rfl, rfl, rfl, h4, r4⟩ := trodAll_cons r3
  obtain ⟨v5, vs5, d5, ds5, p5, q5, rfl, rfl, rfl, h5, r5⟩ := trodAll_cons r4
  obtain ⟨rfl, rfl, rfl⟩ := trodAll_nil r5
  obtain rfl : args = #[v0, v1, v2, v3, v4, v5] := by cases args; simp_all
  obtain ⟨rfl, rfl⟩ := trodVars_none hV
  obtain ⟨k0, f0⟩ := h0
  obtain ⟨cs0, rfl, hz0⟩ := okWide_struct Try.underlying32 (hval 0 32 v0 rfl rfl)
  obtain ⟨id0, tm0, cm0, ld0, vb0, vt0, es0, A0, ca0, e0, hE0, hi0, ht0, u0, y0⟩ := open_seen64 f0
  simp only [Value.cells] at e0
  obtain rfl : cs0 = #[.int .i64 id0, .int .i64 tm0, .int .i64 cm0, .bool ld0, .int .i64 vb0, .int .i64 vt0, .slice A0 es0.length ca0] := by apply Array.ext'; exact e0
  obtain ⟨k1, f1⟩ := h1
  obtain ⟨cs1, rfl, hz1⟩ := okWide_struct Try.underlying32 (hval 1 32 v1 rfl rfl)
  obtain ⟨id1, tm1, cm1, ld1, vb1, vt1, es1, A1, ca1, e1, hE1, hi1, ht1, u1, y1⟩ := open_seen64 f1
  simp only [Value.cells] at e1
  obtain rfl : cs1 = #[.int .i64 id1, .int .i64 tm1, .int .i64 cm1, .bool ld1, .int .i64 vb1, .int .i64 vt1, .slice A1 es1.length ca1] := by apply Array.ext'; exact e1
  obtain ⟨k2, f2⟩ := h2
  obtain ⟨a2, n2, c2, rfl⟩ := okWide_slice Try.underlying48 (hval 2 48 v2 rfl rfl)
  obtain ⟨A2, m2, d2', ls2, e2, hm2, ⟨ws2, hwa2, hwb2, hwc2, hwd2⟩, hb2, hc2⟩ := open_bytess Try.underlying48 Try.underlying44 Try.underlying5 (by kernel_rfl) (by kernel_rfl) f2
  simp only [Value.cells, List.cons.injEq, and_true, Value.slice.injEq] at e2
  obtain ⟨rfl, rfl, rfl⟩ := e2
  obtain ⟨k3, f3⟩ := h3
  obtain ⟨a3, n3, c3, rfl⟩ := okWide_slice Try.underlying48 (hval 3 48 v3 rfl rfl)
  obtain ⟨A3, m3, d3', ls3, e3, hm3, ⟨ws3, hwa3, hwb3, hwc3, hwd3⟩, hb3, hc3⟩ := open_bytess Try.underlying48 Try.underlying44 Try.underlying5 (by kernel_rfl) (by kernel_rfl) f3
  simp only [Value.cells, List.cons.injEq, and_true, Value.slice.injEq] at e3
  obtain ⟨rfl, rfl, rfl⟩ := e3
  obtain ⟨k4, f4⟩ := h4
  obtain ⟨x4, rfl⟩ := okWide_int Try.underlying3 (hval 4 3 v4 rfl rfl)
  obtain ⟨y4, e4, hx4, hb4⟩ := open_intV Try.underlying3 f4
  simp only [Value.cells, List.cons.injEq, and_true, Value.int.injEq, true_and] at e4
  subst e4
  obtain ⟨k5, f5⟩ := h5
  obtain ⟨x5, rfl⟩ := okWide_int Try.underlying3 (hval 5 3 v5 rfl rfl)
  obtain ⟨y5, e5, hx5, hb5⟩ := open_intV Try.underlying3 f5
  simp only [Value.cells, List.cons.injEq, and_true, Value.int.injEq, true_and] at e5
  subst e5
  have hsm : Rows.uptoBulkAll [d0, d1, d2, d3, d4, d5] ≤ 1048576 := of_decide_eq_true hk
  simp only [Rows.uptoBulkAll] at hsm
  simp only at u0 y0 u1 y1 hb2 hb3 hb4 hb5
  refine (watchBoth_walk id0 tm0 cm0 ld0 vb0 vt0 es0 id1 tm1 cm1 ld1 vb1 vt1 es1 ls2 ls3 x4 x5 hi0 ht0 (by omega) (fun x hx => by have := y0 x hx; omega) (by omega) (fun x hx => by have := y1 x hx; omega) (by omega) (by omega) (Sat.start W) ((SlV.mono EntV.mono).old hE0 []) ((SlV.mono EntV.mono).old hE1 []) (fun {L'} hp => ⟨ws2, fun w hs => (hwa2.old []) w (hs.pick hp), hwb2, hwc2, fun i l hl => by obtain ⟨B, c, h1, h2⟩ := hwd2 i l hl; exact ⟨B, c, h1, fun w hs => (h2.old []) w (hs.pick hp)⟩⟩) (fun {L'} hp => ⟨ws3, fun w hs => (hwa3.old []) w (hs.pick hp), hwb3, hwc3, fun i l hl => by obtain ⟨B, c, h1, h2⟩ := hwd3 i l hl; exact ⟨B, c, h1, fun w hs => (h2.old []) w (hs.pick hp)⟩⟩)).mono fun e W' h => ?_
  obtain ⟨rfl, hs⟩ := h
  exact ⟨_, rfl, law_post hW' laid (by kernel_rfl) rfl (by kernel_rfl) Try.underlying4 rfl rfl rfl (hs.below (.here _))⟩

set_option maxRecDepth 100000 in
theorem lifted (os : Os) (started : os.Started) (H : Type) (enc : TypeId × Value → H) (F : Stop.Interp) :
    ReturnsInHanded {} Try.checked os 6 .any ((Rows.OpenSpec.upto Rows.watchBothSpec).pre6 enc Try.prog Try.f6 Rows.watchBothUptoRow.domain false) (((Rows.OpenSpec.upto Rows.watchBothSpec).at F).post enc Try.prog Try.f6 false true false false) := by
  refine returnsInHanded_of_cond (C := Try.checked) (s := Rows.OpenSpec.upto Rows.watchBothSpec) (k := Rows.uptoSmall) rfl own started (by kernel_rfl) Try.func6
    (OpenSpec.witness (enc := enc) (C := Try.checked) (s := Rows.OpenSpec.upto Rows.watchBothSpec) (k := Rows.uptoSmall) rfl false ⟨#[], #[.agg #[.int .i64 0, .int .i64 0, .int .i64 0, .bool false, .int .i64 0, .int .i64 0, .slice none 0 0], .agg #[.int .i64 0, .int .i64 0, .int .i64 0, .bool false, .int .i64 0, .int .i64 0, .slice none 0 0], .slice none 0 0, .slice none 0 0, .int .i64 0, .int .i64 0], []⟩ 8 (by kernel_rfl) (by kernel_rfl) (by kernel_rfl)
      (x := ([.agg [.lit (.int .i64 0), .lit (.int .i64 0), .lit (.int .i64 0), .lit (.bool false), .agg [.lit (.int .i64 0), .lit (.int .i64 0), .nil]], .agg [.lit (.int .i64 0), .lit (.int .i64 0), .lit (.int .i64 0), .lit (.bool false), .agg [.lit (.int .i64 0), .lit (.int .i64 0), .nil]], .nil, .nil, .lit (.int .i64 0), .lit (.int .i64 0)], [], [])) (by kernel_rfl) rfl (by kernel_rfl)) ?_
  intro W base args ds gs before hval hW _ hk _
  exact contract H enc W base args ds gs before hval hW hk

/-- For all arguments of bulk at most 1048576 the law returns true. -/
theorem proved : Rows.WatchBothUptoSaid :=
  OpenClaim.holds_of_cond 6 Try.f6 rfl rfl rfl rfl rfl rfl rfl ⟨rfl, rfl, rfl, rfl, rfl⟩ rfl rfl rfl rfl rfl (by kernel_rfl) Try.func6 (by kernel_rfl)
    (of_decide_eq_true (by kernel_rfl)) (by unfold Func.isWrapper; first | (rw [if_pos (by decide +kernel)]; kernel_rfl) | (rw [if_neg (by decide +kernel)]; exact ⟨rfl, rfl⟩))
    (fun os started H enc _ F => lifted os started H enc F)
#print axioms proved
end Go.Proofs.Ytcpcdhlfdabbnaa.watchBoth
