/-
  WireApart, for all arguments of bulk at most 1048576: whatever comes in, the call returns true and each argument reads as it did.
-/
import Derived.Test.YtaenimnjaekmmaaApart3
import Derived.Test.YtaenimnjaekmmaaOpen2
namespace Go.Proofs.Ytaenimnjaekmmaa.wireApart
open Go Go.RowKit Sl Go.Deep Go.ChangeShapes Go.WideShapes Go.ChangeAt

theorem own : ownKnob Try.prog.godebug = none := by kernel_rfl
theorem laid : laidOutB Try.prog = true := by kernel_rfl

theorem contract (H : Type) (enc : TypeId × Value → H) (W : World) (base : Nat) (args : Array Value) (ds gs : List (DataW H)) (before : List MemPlace)
    (hval : ∀ (j : Nat) t v, Try.f8.params[j]? = some t → args[j]? = some v → Value.okWide Try.prog W .any base t v)
    (hW : DataW.Whole enc Try.prog Try.f8.params.toList Rows.wireApartSpec.vars false W args.toList ds gs before) (hk : Rows.uptoSmall H (ds ++ gs) = true) :
    Calls Try.prog 8 args W fun e W' => ∃ v, e = .returned v ∧ Rows.wireApartSpec.post enc Try.prog Try.f8 false true false false W args v W' := by
  have hW' := hW
  obtain ⟨p, q, hA, hV, rfl, hfz, hnd⟩ := hW
  rw [show Try.f8.params.toList = [3, 3, 64, 64, 37, 37] from rfl] at hA
  rw [Try.params8] at hval
  obtain ⟨v0, vs0, d0, ds0, p0, q0, hargs, rfl, rfl, h0, r0⟩ := trodAll_cons hA
  obtain ⟨v1, vs1, d1, ds1, p1, q1, rfl, rfl, rfl, h1, r1⟩ := trodAll_cons r0
  obtain ⟨v2, vs2, d2, ds2, p2, q2, rfl, rfl, rfl, h2, r2⟩ := trodAll_cons r1
  obtain ⟨v3, vs3, d3, ds3, p3, q3, rfl, rfl, rfl, h3, r3⟩ := trodAll_cons r2
  obtain ⟨v4, vs4, d4, ds4, p4, q4, rfl, rfl, rfl, h4, r4⟩ := trodAll_cons r3
  obtain ⟨v5, vs5, d5, ds5, p5, q5, rfl, rfl, rfl, h5, r5⟩ := trodAll_cons r4
  obtain ⟨rfl, rfl, rfl⟩ := trodAll_nil r5
  obtain rfl : args = #[v0, v1, v2, v3, v4, v5] := by cases args; simp_all
  obtain ⟨rfl, rfl⟩ := trodVars_none hV
  obtain ⟨k0, f0⟩ := h0
  obtain ⟨x0, rfl⟩ := okWide_int Try.underlying3 (hval 0 3 v0 rfl rfl)
  obtain ⟨y0, e0, hx0, hb0⟩ := open_intV Try.underlying3 f0
  simp only [Value.cells, List.cons.injEq, and_true, Value.int.injEq, true_and] at e0
  subst e0
  obtain ⟨k1, f1⟩ := h1
  obtain ⟨x1, rfl⟩ := okWide_int Try.underlying3 (hval 1 3 v1 rfl rfl)
  obtain ⟨y1, e1, hx1, hb1⟩ := open_intV Try.underlying3 f1
  simp only [Value.cells, List.cons.injEq, and_true, Value.int.injEq, true_and] at e1
  subst e1
  obtain ⟨k2, f2⟩ := h2
  obtain ⟨cs2, rfl, hz2⟩ := okWide_struct Try.underlying64 (hval 2 64 v2 rfl rfl)
  obtain ⟨⟨t2, i2, k2', b2⟩, ⟨⟨A2, c2, e2, hr2⟩, _⟩, hb2⟩ := open_entry f2
  simp only [Value.cells] at e2
  obtain rfl : cs2 = #[_, _, _, _] := by apply Array.ext'; exact e2
  simp only at hr2 hb2
  obtain ⟨k3, f3⟩ := h3
  obtain ⟨cs3, rfl, hz3⟩ := okWide_struct Try.underlying64 (hval 3 64 v3 rfl rfl)
  obtain ⟨⟨t3, i3, k3', b3⟩, ⟨⟨A3, c3, e3, hr3⟩, _⟩, hb3⟩ := open_entry f3
  simp only [Value.cells] at e3
  obtain rfl : cs3 = #[_, _, _, _] := by apply Array.ext'; exact e3
  simp only at hr3 hb3
  obtain ⟨k4, f4⟩ := h4
  obtain ⟨a4, n4, c4, rfl⟩ := okWide_slice Try.underlying37 (hval 4 37 v4 rfl rfl)
  obtain ⟨A4, m4, d4', l4, e4, hn4, hr4, hb4, _⟩ := open_ints' Try.underlying37 Try.underlying3 (by kernel_rfl) f4
  simp only [Value.cells, List.cons.injEq, and_true, Value.slice.injEq] at e4
  obtain ⟨rfl, rfl, rfl⟩ := e4
  obtain ⟨k5, f5⟩ := h5
  obtain ⟨a5, n5, c5, rfl⟩ := okWide_slice Try.underlying37 (hval 5 37 v5 rfl rfl)
  obtain ⟨A5, m5, d5', l5, e5, hn5, hr5, hb5, _⟩ := open_ints' Try.underlying37 Try.underlying3 (by kernel_rfl) f5
  simp only [Value.cells, List.cons.injEq, and_true, Value.slice.injEq] at e5
  obtain ⟨rfl, rfl, rfl⟩ := e5
  have hsm : Rows.uptoBulkAll [d0, d1, d2, d3, d4, d5] ≤ 1048576 := of_decide_eq_true hk
  simp only [Rows.uptoBulkAll] at hsm
  simp only at hb0 hb1 hb2 hb3 hb4 hb5
  refine (wireApart_walk x0 x1 t2 i2 k2' t3 i3 k3' b2 b3 l4 l5 (by omega) (by omega) (Hid.mk' hn4) (Hid.mk' hn5) (by omega) (by omega) (Sat.start W) (hr2.old []) (hr3.old []) (hr4.old []) (hr5.old [])).mono fun e W' h => ?_
  obtain ⟨rfl, hs⟩ := h
  exact ⟨_, rfl, law_post hW' laid (by kernel_rfl) rfl (by kernel_rfl) Try.underlying4 rfl rfl rfl (hs.below (.here _))⟩

set_option maxRecDepth 100000 in
theorem lifted (os : Os) (started : os.Started) (H : Type) (enc : TypeId × Value → H) (F : Stop.Interp) :
    ReturnsInHanded {} Try.checked os 8 .any ((Rows.OpenSpec.upto Rows.wireApartSpec).pre6 enc Try.prog Try.f8 Rows.wireApartUptoRow.domain false) (((Rows.OpenSpec.upto Rows.wireApartSpec).at F).post enc Try.prog Try.f8 false true false false) := by
  refine returnsInHanded_of_cond (C := Try.checked) (s := Rows.OpenSpec.upto Rows.wireApartSpec) (k := Rows.uptoSmall) rfl own started (by kernel_rfl) Try.func8
    (OpenSpec.witness (enc := enc) (C := Try.checked) (s := Rows.OpenSpec.upto Rows.wireApartSpec) (k := Rows.uptoSmall) rfl false ⟨#[], #[.int .i64 0, .int .i64 0, .agg #[.int .i64 0, .int .i64 0, .int .i64 0, .slice none 0 0], .agg #[.int .i64 0, .int .i64 0, .int .i64 0, .slice none 0 0], .slice none 0 0, .slice none 0 0], []⟩ 8 (by kernel_rfl) (by kernel_rfl) (by kernel_rfl)
      (x := ([.lit (.int .i64 0), .lit (.int .i64 0), .agg [.lit (.int .i64 0), .lit (.int .i64 0), .lit (.int .i64 0), .nil], .agg [.lit (.int .i64 0), .lit (.int .i64 0), .lit (.int .i64 0), .nil], .nil, .nil], [], [])) (by kernel_rfl) rfl (by kernel_rfl)) ?_
  intro W base args ds gs before hval hW _ hk _
  exact contract H enc W base args ds gs before hval hW hk

/-- For all arguments of bulk at most 1048576 the law returns true. -/
theorem proved : Rows.WireApartUptoSaid :=
  OpenClaim.holds_of_cond 8 Try.f8 rfl rfl rfl rfl rfl rfl rfl ⟨rfl, rfl, rfl, rfl, rfl⟩ rfl rfl rfl rfl rfl (by kernel_rfl) Try.func8 (by kernel_rfl)
    (of_decide_eq_true (by kernel_rfl)) (by unfold Func.isWrapper; first | (rw [if_pos (by decide +kernel)]; kernel_rfl) | (rw [if_neg (by decide +kernel)]; exact ⟨rfl, rfl⟩))
    (fun os started H enc _ F => lifted os started H enc F)
#print axioms proved
end Go.Proofs.Ytaenimnjaekmmaa.wireApart
