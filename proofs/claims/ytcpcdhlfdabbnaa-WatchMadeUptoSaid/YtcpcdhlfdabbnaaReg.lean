/-
  A region that draws its order, in the separation logic: what an operation yields in every world of which a list of resources is known is taken first; the others come one behind the other.
-/
import Derived.Test.YtcpcdhlfdabbnaaSlOpsSt
namespace Sl
open Go Go.RowKit

section
variable {P : Program} {a : Act} {w0 w : World} {L : List HP}
variable {dst : Option Tmp} {ty : TypeId} {pos : String} {aft : Array Edge} {gd : Option (Nat × Bool)}

theorem Cl.blkL {b : Nat} {cur : Array Value} {E : TypeId} {fr : Nat × Nat} {off : Nat} {v : Value} (h : cur.toList[off]? = some v) : Cl w0 (Sl.blk b (.cells cur E fr) :: L) ⟨b, off, Option.none⟩ v := Cl.blk (by simpa using h)

/-- What a load yields. -/
theorem yl_load {T : TypeId} {x : Operand} {ad : Addr} {v : Value} [hT : Scal P T] (hs : Sat w0 w L) (hx : a.eval x = .pointer (some ad)) (hc : Cl w0 L ad v) {v' : Value} (hv : v' = v) :
    (execOp a.eval ⟨dst, .load T x, ty, pos, aft, gd⟩).run P w = .ok (.value v') w := by
  subst hv
  obtain ⟨d, h1, h2⟩ := hT.h
  have hagg : (isAgg T).run P w = .ok false w := by
    unfold isAgg
    rw [Sem.run_bind, run_underlying h1 w]
    cases d <;> simp_all
  simp [execOp, hx, Instr.loadAt, Instr.sureAddr, loadVar, hagg, load, Sem.run, hc w hs]

/-- What a load of a struct yields. -/
theorem yl_loadAgg {T : TypeId} {x : Operand} {b off n : Nat} {cur : Array Value} {E : TypeId} {fr : Nat × Nat} {L' : List HP} {cs : List Value} [hT : AggT P T n] (hs : Sat w0 w L) (hx : a.eval x = .pointer (some ⟨b, off, none⟩))
    (ho : Out (blk b (.cells cur E fr)) L L') (hn : off + n ≤ cur.size) (hcs : (cur.toList.drop off).take n = cs) {v : Value} (hv : v = .agg cs.toArray) :
    (execOp a.eval ⟨dst, .load T x, ty, pos, aft, gd⟩).run P w = .ok (.value v) w := by
  subst hv
  obtain ⟨⟨d, h1, h2⟩, h3⟩ := hT.h
  subst hcs
  have hg := hs.get ho
  have hlen : ((cur.toList.drop off).take n).length = n := by simp; omega
  have hl := run_loadAt_mid (P := P) w b off T ((cur.toList.drop off).take n) d (fun j v hv => by
    rw [List.getElem?_take] at hv
    split at hv
    · rw [List.getElem?_drop] at hv
      simpa [World.cell?, hg] using hv
    · cases hv) h1 h2 (by rw [h3, hlen])
  simp only [execOp, hx, Sem.run_bind, hl, Result.andThen_ok, Sem.run_pure]

/-- What the conversion of bytes to a string yields. -/
theorem yl_b2s {S D E : TypeId} [hS : SlT P S E] [hE : U8T P E] [hD : StrT P D] {x : Operand} {A : Option Addr} {n c : Nat} {l : List UInt8} (hs : Sat w0 w L) (hx : a.eval x = .slice A n c) (hr : Rd w0 L A n 1 (B8 l)) {v : Value} (hv : v = .string ⟨l.toArray⟩) :
    (execOp a.eval ⟨dst, .convert S D x, ty, pos, aft, gd⟩).run P w = .ok (.value v) w := by
  subst hv
  simp only [execOp, hx, conv_b2s hr hs, Sem.run_bind, Result.andThen_ok, Sem.run_pure]

theorem if_wanted {c : Bool} {p q : Prop} (h : c = true) (hp : p) : if c = true then p else q := by rw [if_pos h]; exact hp
end

section
variable {P : Program} {ops : Array Oper} {Q : Exit → Act → World → Prop} {w0 : World} {L : List HP}

/-- Whatever order comes, and L is known behind every operation. -/
def rg (P : Program) (ops : Array Oper) (Q : Exit → Act → World → Prop) (w0 : World) (L : List HP) (fuel : Nat) (listed : Array Bool) (a : Act) (w : World) : Prop :=
  wpAnyH P .any ops Q (fun w' => Sat w0 w' L) fuel listed a w

theorem rg_start {id : Nat} {a : Act} {w : World} (hm : P.follows .mixedOrders = true) (hs : Sat w0 w L)
    (h : ∀ w1, Sat w0 w1 L → rg P ops Q w0 L ops.size (Array.replicate ops.size false) a w1) : (Code.region id ops true).wp P Q a w :=
  wp_region_held_drew hm (S := fun w' => Sat w0 w' L) hs.drew fun h1 => h _ h1

theorem rg_start2 {id : Nat} {a : Act} {w : World} {L' : List HP} (hm : P.follows .mixedOrders = true) (hs : Sat w0 w L') (hp : Pick L' L)
    (h : ∀ w1, Sat w0 w1 L' → Sat w0 w1 L → rg P ops Q w0 L ops.size (Array.replicate ops.size false) a w1) : (Code.region id ops true).wp P Q a w :=
  wp_region_held_drew hm (S := fun w' => Sat w0 w' L) (hs.drew.pick hp) fun h1 => h _ hs.drew h1

theorem wpAnyH_imp {md : Region.Mode} {S S' : World → Prop} (hS : ∀ w, S' w → S w) : ∀ (fuel : Nat) (listed : Array Bool) (a : Act) (w : World), wpAnyH P md ops Q S' fuel listed a w → wpAnyH P md ops Q S fuel listed a w
  | 0, _, _, _, h => h
  | _ + 1, _, _, _, h => ⟨h.1, fun i hi => wpOp_mono (fun _ _ h' => ⟨hS _ h'.1, wpAnyH_imp hS _ _ _ _ h'.2⟩) (h.2 i hi)⟩

/-- More is known from here on. -/
theorem rg_more {L' : List HP} {fuel : Nat} {listed : Array Bool} {a : Act} {w : World} (hp : Pick L' L) (h : rg P ops Q w0 L' fuel listed a w) : rg P ops Q w0 L fuel listed a w :=
  wpAnyH_imp (fun _ hs => hs.pick hp) _ _ _ _ h

/-- The way that a list of resources is told by a fact. -/
theorem Sat.pickOf {w0 w : World} {L L' : List HP} (_ : Sat w0 w L') (hp : Pick L' L) : Pick L' L := hp

theorem rg_take {i : Nat} {oi : Oper} {v : Value} {fuel : Nat} {listed : Array Bool} {a : Act} {w : World} (hi : ops.toList[i]? = some oi)
    (hn : Region.noSelect ops = true) (hf : Region.free .any ops listed i = true) (hr : (Region.ready .any ops listed).contains i = true)
    (hQ : ∀ c a w, Q (.panic c) (a.put oi.dst v) w → Q (.panic c) a w) (hw : Region.wanted oi (yielded ops a.tmps) = true) (hs : Sat w0 w L)
    (hy : ∀ w, Sat w0 w L → (execOp a.eval oi).run P w = .ok (.value v) w)
    (h : rg P ops Q w0 L fuel (listed.setIfInBounds i true) (a.put oi.dst v) w) : rg P ops Q w0 L (fuel + 1) listed a w :=
  wpAnyH_take (by simpa using hi) hn hf hr hQ (.inl ⟨hw, hy⟩) hs h

theorem rg_skip {i : Nat} {oi : Oper} {fuel : Nat} {listed : Array Bool} {a : Act} {w : World} (hi : ops.toList[i]? = some oi)
    (hn : Region.noSelect ops = true) (hf : Region.free .any ops listed i = true) (hr : (Region.ready .any ops listed).contains i = true)
    (hQ : ∀ c a w, Q (.panic c) (a.put oi.dst undef) w → Q (.panic c) a w) (hw : Region.wanted oi (yielded ops a.tmps) = false) (hs : Sat w0 w L)
    (h : rg P ops Q w0 L fuel (listed.setIfInBounds i true) (a.put oi.dst undef) w) : rg P ops Q w0 L (fuel + 1) listed a w :=
  wpAnyH_take (by simpa using hi) hn hf hr hQ (.inr ⟨hw, rfl⟩) hs h

/-- The only one that may come. -/
theorem rg_one {i : Nat} {oi : Oper} {fuel : Nat} {listed : Array Bool} {a : Act} {w : World} (hr : Region.ready .any ops listed = [i]) (hi : ops.toList[i]? = some oi) (hw : Region.wanted oi (yielded ops a.tmps) = true)
    (h : ∀ K : Act → World → Prop, Shut (∀ a w, Sat w0 w L → rg P ops Q w0 L fuel (listed.setIfInBounds i true) a w → K a w) → Oper.wp P oi a w K Q) : rg P ops Q w0 L (fuel + 1) listed a w :=
  wpAnyH_ready hr (by simp) (.cons (by simpa using hi) (fun K hK => by rw [if_pos hw]; exact h K (fun a w h1 h2 => hK a w h1 (fun _ => h2))) .nil)

theorem rg_two {i j : Nat} {oi oj : Oper} {fuel : Nat} {listed : Array Bool} {a : Act} {w : World} (hr : Region.ready .any ops listed = [i, j]) (hi : ops.toList[i]? = some oi) (hj : ops.toList[j]? = some oj)
    (hw : Region.wanted oi (yielded ops a.tmps) = true) (hw2 : Region.wanted oj (yielded ops a.tmps) = true)
    (h : ∀ K : Act → World → Prop, Shut (∀ a w, Sat w0 w L → rg P ops Q w0 L fuel (listed.setIfInBounds i true) a w → K a w) → Oper.wp P oi a w K Q)
    (h2 : ∀ K : Act → World → Prop, Shut (∀ a w, Sat w0 w L → rg P ops Q w0 L fuel (listed.setIfInBounds j true) a w → K a w) → Oper.wp P oj a w K Q) : rg P ops Q w0 L (fuel + 1) listed a w :=
  wpAnyH_ready hr (by simp) (.cons (by simpa using hi) (fun K hK => by rw [if_pos hw]; exact h K (fun a w h1 h2 => hK a w h1 (fun _ => h2))) (.cons (by simpa using hj) (fun K hK => by rw [if_pos hw2]; exact h2 K (fun a w h1 h2 => hK a w h1 (fun _ => h2))) .nil))

/-- Back into the region. -/
theorem rg_back {fuel : Nat} {listed : Array Bool} {K : Act → World → Prop} (hK : Shut (∀ a w, Sat w0 w L → rg P ops Q w0 L fuel listed a w → K a w)) {a : Act} {w : World} (hs : Sat w0 w L) (h : Sat w0 w L → rg P ops Q w0 L fuel listed a w) : K a w :=
  hK.out a w hs (h hs)

theorem rg_done {listed : Array Bool} {a : Act} {w : World} {fuel : Nat} (hr : Region.ready .any ops listed = []) (h : Q .normal a w) : rg P ops Q w0 L fuel listed a w := wpAnyH_done hr h fuel
attribute [irreducible] rg
#print axioms rg_two
end
end Sl
