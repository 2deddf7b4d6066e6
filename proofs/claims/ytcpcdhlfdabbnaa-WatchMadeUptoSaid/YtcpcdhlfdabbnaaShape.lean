/-
  What cells hold as values of one's own: numbers, bytes, slices of anything, over whatever reads memory ('Rdr': a world, or all worlds of which a list of resources is known). No Go program in it.
-/
import Derived.Test.YtcpcdhlfdabbnaaSlOps2
namespace Sl
open Go Go.RowKit

/-- What reads: at an address, so many elements of so many cells, the cells. -/
abbrev Rdr := Option Addr → Nat → Nat → List Value → Prop
abbrev IsV (α : Type) := Rdr → List Value → α → Prop
def IsV.Mono {α : Type} (f : IsV α) : Prop := ∀ (R R' : Rdr), (∀ A n sz vs, R A n sz vs → R' A n sz vs) → ∀ cs x, f R cs x → f R' cs x

def IntV : IsV Int := fun _ cs x => cs = [.int .i64 x]
def BoolV : IsV Bool := fun _ cs x => cs = [.bool x]
def BytesV : IsV (List UInt8) := fun R cs x => ∃ A c, cs = [.slice A x.length c] ∧ R A x.length 1 (B8 x)
def SlV {α : Type} (f : IsV α) (sz : Nat) : IsV (List α) := fun R cs xs => ∃ A c vs, cs = [.slice A xs.length c] ∧ R A xs.length sz vs ∧ vs.length = xs.length * sz ∧ ∀ (i : Nat) (x : α), xs[i]? = some x → f R ((vs.drop (i * sz)).take sz) x

theorem BytesV.mono : IsV.Mono BytesV := fun _ _ h _ _ ⟨A, c, e, hr⟩ => ⟨A, c, e, h _ _ _ _ hr⟩
theorem IntV.mono : IsV.Mono IntV := fun _ _ _ _ _ e => e
theorem BoolV.mono : IsV.Mono BoolV := fun _ _ _ _ _ e => e
theorem SlV.mono {α : Type} {f : IsV α} {sz : Nat} (hf : f.Mono) : (SlV f sz).Mono := fun _ _ h _ _ ⟨A, c, vs, e, hr, hl, hx⟩ => ⟨A, c, vs, e, h _ _ _ _ hr, hl, fun i x hi => hf _ _ h _ _ (hx i x hi)⟩

section
variable {w0 w : World} {L L' : List HP} {p : HP} {α : Type} {f : IsV α} {cs : List Value} {x : α}

theorem Rd.cons_all : ∀ A n sz vs, Rd w0 L A n sz vs → Rd w0 (p :: L) A n sz vs := fun _ _ _ _ h => h.cons
theorem IsV.Mono.cons (hf : f.Mono) (h : f (Rd w0 L) cs x) : f (Rd w0 (p :: L)) cs x := hf _ _ Rd.cons_all _ _ h
theorem Rd.pick_all (hp : Pick L' L) : ∀ A n sz vs, Rd w0 L A n sz vs → Rd w0 L' A n sz vs := fun _ _ _ _ h w hs => h w (hs.pick hp)
theorem IsV.Mono.pick (hf : f.Mono) (hp : Pick L' L) (h : f (Rd w0 L) cs x) : f (Rd w0 L') cs x := hf _ _ (Rd.pick_all hp) _ _ h
end

/-- What read at the beginning reads as long as old memory is known. -/
theorem Reads.old {W : World} {A : Option Addr} {n sz : Nat} {xs : List Value} (h : Reads W A n sz xs) (L : List HP) : Rd W (old W :: L) A n sz xs := by
  intro w hs
  refine ⟨h.len, h.nil, fun a e j u hu => ⟨(h.cell a e j u hu).1, ?_⟩⟩
  have hc := (h.cell a e j u hu).2
  have hb := World.block_lt_of_cell? W _ hc
  rw [← hc]
  exact World.cell?_of_block (hs.of_old (.here _) _ hb)

theorem IsV.Mono.old {α : Type} {f : IsV α} {W : World} {cs : List Value} {x : α} (hf : f.Mono) (h : f (Reads W) cs x) (L : List HP) : f (Rd W (Sl.old W :: L)) cs x := hf _ _ (fun _ _ _ _ h => h.old L) _ _ h

section
variable {P : Program} {ops : Array Oper} {Q : Exit → Act → World → Prop} {rest : List Oper} {a : Act} {w0 w : World} {L : List HP}
variable {dst : Option Tmp} {ty : TypeId} {pos : String} {aft : Array Edge}

theorem Rd.row_at {b off n sz : Nat} {xs : List Value} (h : Rd w0 L (some ⟨b, off, none⟩) n sz xs) (k : Nat) (hk : k < n) : Rd w0 L (some ⟨b, off + k * sz, none⟩) 1 sz ((xs.drop (k * sz)).take sz) := by
  intro w hs
  have hr := h w hs
  have hl := hr.len
  have hle : (k + 1) * sz ≤ n * sz := Nat.mul_le_mul_right _ hk
  refine ⟨by rw [List.length_take, List.length_drop, hl]; rw [Nat.add_mul] at hle; omega, fun e => (by cases e), fun a e j u hu => ?_⟩
  cases e
  refine ⟨rfl, ?_⟩
  rw [List.getElem?_take] at hu
  split at hu
  · rw [List.getElem?_drop] at hu
    have := (hr.cell _ rfl _ u hu).2
    simpa [Nat.add_assoc] using this
  · cases hu

/-- A load of a struct out of what reads. -/
theorem run_loadAgg_rd {T : TypeId} {b off sz : Nat} {cs : List Value} [hT : AggT P T sz] (hs : Sat w0 w L) (hr : Rd w0 L (some ⟨b, off, none⟩) 1 sz cs) :
    (Instr.loadAt T (.pointer (some ⟨b, off, none⟩))).run P w = .ok (.agg cs.toArray) w := by
  obtain ⟨⟨d, h1, h2⟩, h3⟩ := hT.h
  have hr' := hr w hs
  exact run_loadAt_mid (P := P) w b off T cs d (fun j v hv => (hr'.cell _ rfl j v hv).2) h1 h2 (by rw [h3, hr'.len, Nat.one_mul])

theorem wl_loadAggR {T : TypeId} {x : Operand} {b off sz : Nat} {cs : List Value} [hT : AggT P T sz] (hs : Sat w0 w L) (hx : a.eval x = .pointer (some ⟨b, off, none⟩)) (hr : Rd w0 L (some ⟨b, off, none⟩) 1 sz cs)
    (h : wpList P ops Q rest (a.put dst (.agg cs.toArray)) w) : wpList P ops Q (⟨dst, .load T x, ty, pos, aft, none⟩ :: rest) a w :=
  wl_do rfl (v := .agg cs.toArray) (w' := w) (by simp only [execOp, hx, Sem.run_bind, run_loadAgg_rd hs hr, Result.andThen_ok, Sem.run_pure]) h

theorem yl_loadAggR {T : TypeId} {x : Operand} {b off sz : Nat} {cs : List Value} {gd : Option (Nat × Bool)} [hT : AggT P T sz] (hs : Sat w0 w L) (hx : a.eval x = .pointer (some ⟨b, off, none⟩)) (hr : Rd w0 L (some ⟨b, off, none⟩) 1 sz cs) {v : Value} (hv : v = .agg cs.toArray) :
    (execOp a.eval ⟨dst, .load T x, ty, pos, aft, gd⟩).run P w = .ok (.value v) w := by
  subst hv
  simp only [execOp, hx, Sem.run_bind, run_loadAgg_rd hs hr, Result.andThen_ok, Sem.run_pure]

/-- One cell of a row. -/
theorem Rd.cell_at {b off n sz : Nat} {xs : List Value} (h : Rd w0 L (some ⟨b, off, none⟩) n sz xs) {j : Nat} {u : Value} (hu : xs[j]? = some u) : Cl w0 L ⟨b, off + j, none⟩ u :=
  fun w hs => ((h w hs).cell _ rfl j u hu).2
end

end Sl
