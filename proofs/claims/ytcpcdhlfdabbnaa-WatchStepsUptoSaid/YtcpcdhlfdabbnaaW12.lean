/-
  Two logs, side by side: the plain laws of WatchBoth: the other way round; with itself.
-/
import Derived.Test.YtcpcdhlfdabbnaaW6
namespace Go.Proofs.Ytcpcdhlfdabbnaa
open Go Go.RowKit Sl Go.Shelf

theorem runW_symm {step : Int → Ent → Ent → Int → Bool × Int} (hs : ∀ i x y s, step i x y s = step i y x s) {a b : Vw} : ∀ (n : Nat) (i s : Int), runW step a b n i s = runW step b a n i s
  | 0, _, _ => rfl
  | n + 1, i, s => by
    unfold runW
    cases ha : a.l[(i - a.b - 1).toNat]? with
    | none =>
      cases hb : b.l[(i - b.b - 1).toNat]? with
      | none => rfl
      | some y => rfl
    | some x =>
      cases hb : b.l[(i - b.b - 1).toNat]? with
      | none => rfl
      | some y =>
        simp only
        rw [hs i x y s, runW_symm hs n]

theorem bothW_symm {step : Int → Ent → Ent → Int → Bool × Int} (hs : ∀ i x y s, step i x y s = step i y x s) (a b : Vw) (lim s : Int) : bothW step a b lim s = bothW step b a lim s := by
  unfold bothW
  rw [show hi a b lim = hi b a lim from by unfold hi; omega, show lo a b = lo b a from by unfold lo; omega]
  exact runW_symm hs _ _ _

theorem stepM_symm (i : Int) (x y : Ent) (s : Int) : stepM i x y s = stepM i y x s := by
  unfold stepM
  by_cases h : x.t = y.t
  · rw [if_pos h, if_pos h.symm]
  · rw [if_neg h, if_neg (fun e => h e.symm)]

theorem alike_symm (x y : Ent) : alike x y = alike y x := by
  unfold alike
  rw [Bool.eq_iff_iff]
  simp only [Bool.and_eq_true, beq_iff_eq]
  constructor <;> (rintro ⟨⟨h1, h2⟩, h3⟩; exact ⟨⟨h1.symm, h2.symm⟩, h3.symm⟩)

theorem stepD_symm (i : Int) (x y : Ent) (s : Int) : stepD i x y s = stepD i y x s := by unfold stepD; rw [alike_symm]

theorem matchV_symm (a b : Vw) : matchV a b = matchV b a := by
  unfold matchV
  rw [bothW_symm stepM_symm (wholeV a) (wholeV b), bothW_symm stepD_symm (wholeV a) (wholeV b)]

theorem agreeV_symm (a : Vw) (ca : Int) (b : Vw) (cb : Int) : agreeV a ca b cb = agreeV b cb a ca := by
  unfold agreeV
  rw [bothW_symm stepD_symm (wholeV a) (wholeV b), show min ca cb = min cb ca from by omega]

theorem runW_self {a : Vw} : ∀ (n : Nat) (i s : Int), runW stepD a a n i s = s
  | 0, _, _ => rfl
  | n + 1, i, s => by
    unfold runW
    cases ha : a.l[(i - a.b - 1).toNat]? with
    | none => rfl
    | some x =>
      simp only [stepD, alike, beq_self_eq_true, Bool.and_self, if_true]
      exact runW_self n _ _

theorem matchV_self (a : Vw) : matchV a a = 0 := by unfold matchV bothW; exact runW_self _ _ _
theorem agreeV_self (a : Vw) (c : Int) : agreeV a c a c = 0 := by unfold agreeV bothW; exact runW_self _ _ _

/-- Logs that agree wherever both have entries: nothing is found. -/
theorem runW_same {a b : Vw} (h : ∀ (i : Int) (x y : Ent), a.l[(i - a.b - 1).toNat]? = some x → b.l[(i - b.b - 1).toNat]? = some y → a.b < i → b.b < i → alike x y = true) : ∀ (n : Nat) (i s : Int), a.b < i → b.b < i → runW stepD a b n i s = s
  | 0, _, _, _, _ => rfl
  | n + 1, i, s, h1, h2 => by
    unfold runW
    cases ha : a.l[(i - a.b - 1).toNat]? with
    | none => rfl
    | some x =>
      cases hb : b.l[(i - b.b - 1).toNat]? with
      | none => rfl
      | some y =>
        simp only [stepD, h i x y ha hb h1 h2, if_true]
        exact runW_same h n _ _ (by omega) (by omega)
end Go.Proofs.Ytcpcdhlfdabbnaa
