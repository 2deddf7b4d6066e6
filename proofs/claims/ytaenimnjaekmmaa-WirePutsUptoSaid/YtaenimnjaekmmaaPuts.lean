/-
  WirePuts, for all arguments of bulk at most 1048576: whatever number, bytes and parts come in, the call returns true and each argument reads as it did.
-/
import Derived.Test.YtaenimnjaekmmaaWire4
import Derived.Test.YtaenimnjaekmmaaOpen
namespace Go.Proofs.Ytaenimnjaekmmaa.wirePuts
open Go Go.RowKit Sl Go.Deep Go.ChangeShapes Go.WideShapes Go.ChangeAt

theorem own : ownKnob Try.prog.godebug = none := by kernel_rfl
theorem laid : laidOutB Try.prog = true := by kernel_rfl

theorem contract (H : Type) (enc : TypeId × Value → H) (W : World) (base : Nat) (args : Array Value) (ds gs : List (DataW H)) (before : List MemPlace)
    (hval : ∀ (j : Nat) t v, Try.f3.params[j]? = some t → args[j]? = some v → Value.okWide Try.prog W .any base t v)
    (hW : DataW.Whole enc Try.prog Try.f3.params.toList Rows.wirePutsSpec.vars false W args.toList ds gs before) (hk : Rows.uptoSmall H (ds ++ gs) = true) :
    Calls Try.prog 3 args W fun e W' => ∃ v, e = .returned v ∧ Rows.wirePutsSpec.post enc Try.prog Try.f3 false true false false W args v W' := by
  have hW' := hW
  obtain ⟨p, q, hA, hV, rfl, hfz, hnd⟩ := hW
  rw [show Try.f3.params.toList = [3, 22, 23] from rfl] at hA
  rw [Try.params3] at hval
  obtain ⟨v0, vs0, d0, ds0, p0, q0, hargs, rfl, rfl, h0, r0⟩ := trodAll_cons hA
  obtain ⟨v1, vs1, d1, ds1, p1, q1, rfl, rfl, rfl, h1, r1⟩ := trodAll_cons r0
  obtain ⟨v2, vs2, d2, ds2, p2, q2, rfl, rfl, rfl, h2, r2⟩ := trodAll_cons r1
  obtain ⟨rfl, rfl, rfl⟩ := trodAll_nil r2
  obtain rfl : args = #[v0, v1, v2] := by cases args; simp_all
  obtain ⟨rfl, rfl⟩ := trodVars_none hV
  obtain ⟨x, rfl, rfl, rfl, wx⟩ := open_int Try.underlying3 (hval 0 3 v0 rfl rfl) h0
  obtain ⟨a1, n1, c1, rfl⟩ := okWide_slice Try.underlying22 (hval 1 22 v1 rfl rfl)
  obtain ⟨a2, n2, c2, rfl⟩ := okWide_slice Try.underlying23 (hval 2 23 v2 rfl rfl)
  obtain ⟨k1, f1⟩ := h1
  obtain ⟨k2, f2⟩ := h2
  obtain ⟨A, n, c, l, e1, hn, hr, hb1⟩ := open_bytes Try.underlying22 Try.underlying5 (by kernel_rfl) f1
  obtain ⟨B, m, d, ls, e2, hm, ⟨ws, hw1, hw2, hw3, hw4⟩, hb2, hb3⟩ := open_bytess Try.underlying23 Try.underlying22 Try.underlying5 (by kernel_rfl) (by kernel_rfl) f2
  simp only [Value.cells, List.cons.injEq, and_true, Value.slice.injEq] at e1 e2
  obtain ⟨rfl, rfl, rfl⟩ := e1
  obtain ⟨rfl, rfl, rfl⟩ := e2
  have hsm : Rows.uptoBulkAll [DataW.lit (.int .i64 x), d1, d2] ≤ 1048576 := of_decide_eq_true hk
  simp only [Rows.uptoBulkAll] at hsm
  simp only at hb1 hb2 hb3
  subst hn
  refine (wirePuts_walk x l ls (by omega) (by omega) (by omega) (Sat.start W) (hr.old []) ⟨ws, hw1.old [], hw2, hw3, fun i l hl => ?_⟩).mono fun e W' h => ?_
  · obtain ⟨B', c', g1, g2⟩ := hw4 i l hl
    exact ⟨B', c', g1, g2.old []⟩
  · obtain ⟨rfl, hs⟩ := h
    exact ⟨_, rfl, law_post hW' laid (by kernel_rfl) rfl (by kernel_rfl) Try.underlying4 rfl rfl rfl (hs.below (.here _))⟩

set_option maxRecDepth 100000 in
theorem lifted (os : Os) (started : os.Started) (H : Type) (enc : TypeId × Value → H) (F : Stop.Interp) :
    ReturnsInHanded {} Try.checked os 3 .any ((Rows.OpenSpec.upto Rows.wirePutsSpec).pre6 enc Try.prog Try.f3 Rows.wirePutsUptoRow.domain false) (((Rows.OpenSpec.upto Rows.wirePutsSpec).at F).post enc Try.prog Try.f3 false true false false) := by
  refine returnsInHanded_of_cond (C := Try.checked) (s := Rows.OpenSpec.upto Rows.wirePutsSpec) (k := Rows.uptoSmall) rfl own started (by kernel_rfl) Try.func3
    (OpenSpec.witness (enc := enc) (C := Try.checked) (s := Rows.OpenSpec.upto Rows.wirePutsSpec) (k := Rows.uptoSmall) rfl false ⟨#[], #[.int .i64 0, .slice none 0 0, .slice none 0 0], []⟩ 8 (by kernel_rfl) (by kernel_rfl) (by kernel_rfl)
      (x := ([.lit (.int .i64 0), .nil, .nil], [], [])) (by kernel_rfl) rfl (by kernel_rfl)) ?_
  intro W base args ds gs before hval hW _ hk _
  exact contract H enc W base args ds gs before hval hW hk

/-- For every number, bytes and list of parts of bulk at most 1048576 the law returns true. -/
theorem proved : Rows.WirePutsUptoSaid :=
  OpenClaim.holds_of_cond 3 Try.f3 rfl rfl rfl rfl rfl rfl rfl ⟨rfl, rfl, rfl, rfl, rfl⟩ rfl rfl rfl rfl rfl (by kernel_rfl) Try.func3 (by kernel_rfl)
    (of_decide_eq_true (by kernel_rfl)) (by unfold Func.isWrapper; first | (rw [if_pos (by decide +kernel)]; kernel_rfl) | (rw [if_neg (by decide +kernel)]; exact ⟨rfl, rfl⟩))
    (fun os started H enc _ F => lifted os started H enc F)
#print axioms proved
end Go.Proofs.Ytaenimnjaekmmaa.wirePuts
