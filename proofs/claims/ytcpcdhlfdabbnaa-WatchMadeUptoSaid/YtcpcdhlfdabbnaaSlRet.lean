/-
  Returns of functions whose result lies in a cell. No Go program in it.
-/
import Derived.Test.YtcpcdhlfdabbnaaSlOps2
namespace Sl
open Go Go.RowKit

section
variable {P : Program} {w0 w : World} {L L' : List HP} {fn : Func} {R : Ending → World → Prop} {a : Act}

theorem run_loadVar_sl {T : TypeId} {b off n : Nat} {cur : Array Value} {E : TypeId} {fr : Nat × Nat} {cs : List Value} [hT : AggT P T n] (hs : Sat w0 w L)
    (ho : Out (blk b (.cells cur E fr)) L L') (hn : off + n ≤ cur.size) (hcs : (cur.toList.drop off).take n = cs) : (loadVar T ⟨b, off, none⟩).run P w = .ok (.agg cs.toArray) w := by
  obtain ⟨⟨d, h1, h2⟩, h3⟩ := hT.h
  subst hcs
  have hg := hs.get ho
  have hlen : ((cur.toList.drop off).take n).length = n := by simp; omega
  exact run_loadVar_mid (P := P) w b off T ((cur.toList.drop off).take n) d (fun j v hv => by
    rw [List.getElem?_take] at hv
    split at hv
    · rw [List.getElem?_drop] at hv
      simpa [World.cell?, hg] using hv
    · cases hv) h1 h2 (by rw [h3, hlen])

theorem retC1 {s : Tmp} {T : TypeId} {b n : Nat} {cur : Array Value} {E : TypeId} {fr : Nat × Nat} {cs : List Value} [hT : AggT P T n] (hf : fn.results = #[.cell s T]) (hp : a.tmps.getD s undef = .pointer (some ⟨b, 0, none⟩)) (hs : Sat w0 w L)
    (ho : Out (blk b (.cells cur E fr)) L L') (hn : 0 + n ≤ cur.size) (hcs : (cur.toList.drop 0).take n = cs) (hd : a.defers = []) (hR : R (.returned (.agg cs.toArray)) w) : bodyPost P fn R .ret a w := by
  refine bodyPost_ret ?_ hd hR
  have hl := run_loadVar_sl (P := P) (T := T) hs ho hn hcs
  rw [Array.getD_eq_getD_getElem?] at hp
  simp [results, hf, asAddr, hp, hl]

theorem retC1T {s t : Tmp} {T : TypeId} {b n : Nat} {cur : Array Value} {E : TypeId} {fr : Nat × Nat} {cs : List Value} [hT : AggT P T n] (hf : fn.results = #[.cell s T, .tmp t]) (hp : a.tmps.getD s undef = .pointer (some ⟨b, 0, none⟩)) (hs : Sat w0 w L)
    (ho : Out (blk b (.cells cur E fr)) L L') (hn : 0 + n ≤ cur.size) (hcs : (cur.toList.drop 0).take n = cs) (hd : a.defers = []) (hR : R (.returned (.tuple #[.agg cs.toArray, a.tmps.getD t undef])) w) : bodyPost P fn R .ret a w := by
  refine bodyPost_ret ?_ hd hR
  have hl := run_loadVar_sl (P := P) (T := T) hs ho hn hcs
  rw [Array.getD_eq_getD_getElem?] at hp
  simp [results, hf, asAddr, hp, hl]
#print axioms retC1T
end
end Sl
