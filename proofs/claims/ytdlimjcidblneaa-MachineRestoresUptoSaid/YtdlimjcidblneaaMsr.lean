/-
  Restore, plainly.
-/
import Derived.Test.YtdlimjcidblneaaMs1
namespace Go.Proofs.Ytdlimjcidblneaa
open Go Go.RowKit Sl

/-- Four numbers, one behind the other. -/
def rs4 (e : Int) (b : List UInt8) : (Int × Int × Int × Int) × Int × List UInt8 :=
  let a := rdNumber e b
  let c := rdNumber a.2.1 a.2.2
  let d := rdNumber c.2.1 c.2.2
  let f := rdNumber d.2.1 d.2.2
  ((a.1, c.1, d.1, f.1), f.2.1, f.2.2)
def sesOk (ap nx was : Int) (x : Int × Int × Int × Int) : Prop := was < x.1 ∧ x.1 ≤ ap ∧ x.2.1 < 1099511627776 ∧ (x.2.2.1 < nx ∨ x.2.2.1 = 0) ∧ x.1 ≤ x.2.2.2 ∧ x.2.2.2 ≤ ap
instance (ap nx was : Int) (x : Int × Int × Int × Int) : Decidable (sesOk ap nx was x) := by unfold sesOk; infer_instance
def sesOf (x : Int × Int × Int × Int) : Int × Se := (x.1, ⟨x.2.1, x.2.2.1, x.2.2.2⟩)
def rsSes (ap nx : Int) : Nat → Int → List (Int × Se) → Int → List UInt8 → Option (List (Int × Se) × Int × List UInt8)
  | 0, _, acc, e, b => some (acc, e, b)
  | k + 1, was, acc, e, b => if sesOk ap nx was (rs4 e b).1 then rsSes ap nx k (rs4 e b).1.1 (acc ++ [sesOf (rs4 e b).1]) (rs4 e b).2.1 (rs4 e b).2.2 else none
def rsRec : Nat → List (List UInt8) → Int → List UInt8 → Option (List (List UInt8) × Int × List UInt8)
  | 0, acc, e, b => some (acc, e, b)
  | k + 1, acc, e, b => if (rdBytes e b).2.1 = 0 ∧ (rdBytes e b).1.length ≤ 1024 then rsRec k (acc ++ [(rdBytes e b).1]) (rdBytes e b).2.1 (rdBytes e b).2.2 else none
def rsFin (sp ap st : Int) (ss : List (Int × Se)) (o : Option (List (List UInt8) × Int × List UInt8)) : Option Mc × Int :=
  match o with
  | none => (none, 21)
  | some (l, e, b) => if rdEnd e b = 0 then (some ⟨sp, ap, st, l, ss⟩, 0) else (none, 21)
def rsFin1 (sp ap st nx : Int) (o : Option (List (Int × Se) × Int × List UInt8)) : Option Mc × Int :=
  match o with
  | none => (none, 21)
  | some (ss, e, b) => rsFin sp ap st ss (rsRec (nx - st).toNat [] e b)
def hdOk (x : Int × Int × Int × Int) : Prop := x.1 < 1099511627776 ∧ x.2.1 ≤ x.2.2.1 ∧ x.2.2.1 < 1099511627776 ∧ x.2.2.2 ≤ 16
instance (x : Int × Int × Int × Int) : Decidable (hdOk x) := by unfold hdOk; infer_instance
def Mc.restore (sp : Int) (b : List UInt8) : Option Mc × Int :=
  if sp < 1 ∨ 1099511627776 < sp then (none, 1)
  else if hdOk (rs4 0 b).1 then rsFin1 sp (rs4 0 b).1.1 (rs4 0 b).1.2.1 (rs4 0 b).1.2.2.1 (rsSes (rs4 0 b).1.1 (rs4 0 b).1.2.2.1 (rs4 0 b).1.2.2.2.toNat 0 [] (rs4 0 b).2.1 (rs4 0 b).2.2)
  else (none, 21)

end Go.Proofs.Ytdlimjcidblneaa
