/-
  An operation of a machine, as a value.
-/
import Derived.Test.YtdlimjcidblneaaWk
namespace Go.Proofs.Ytdlimjcidblneaa
open Go Go.RowKit Sl

structure OpD where
  ix : Int
  b : List UInt8
  fr : Int
  mo : Int
def OpV : IsV OpD := fun R cs x => ∃ A c, cs = [.int .i64 x.ix, .slice A x.b.length c, .int .i64 x.fr, .int .i64 x.mo] ∧ R A x.b.length 1 (B8 x.b)
theorem OpV.mono : IsV.Mono OpV := fun _ _ h _ _ ⟨A, c, e, hr⟩ => ⟨A, c, e, h _ _ _ _ hr⟩

end Go.Proofs.Ytdlimjcidblneaa
