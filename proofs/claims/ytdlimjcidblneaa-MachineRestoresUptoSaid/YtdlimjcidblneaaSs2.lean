/-
  A map's keys, sorted, in a row of one's own.
-/
import Derived.Test.YtdlimjcidblneaaSs1
import Derived.Test.YtdlimjcidblneaaMc5
namespace Go.Proofs.Ytdlimjcidblneaa
open Go Go.RowKit Sl Go.Maps Go.WideElems

/-- Whatever an element is, it reads as this. -/
abbrev anyR : Value → Option (DataW Unit × List MemPlace) := fun _ => some (.lit (.bool true), [])

theorem mp_owns {w0 w : World} {L : List HP} {b : Nat} {l : List (Int × Value)} (hs : Sat w0 w (mp (Value.int .i64) In64 b l :: L)) (hl : l.length ≤ 1048576) :
    ∃ D : DataW Unit, w.ownsMap Try.prog 3 anyR b l.length D ∧ (intKeys D).Perm (l.map (·.1)) ∧ Maps.size D = l.length := by
  obtain ⟨es, clock, _, hb, h1, h2, h3⟩ := hs.mp_inv
  have hlen : es.size = l.length := by have := congrArg List.length h2; simpa using this
  have hk : ∀ x ∈ es.toList, ∃ a, (a, x.val) ∈ l ∧ x.key = .int .i64 a ∧ keyOf Try.prog 3 x.key = some (.int .i64 a) := fun x hx => by
    have h4 : (x.key, x.val) ∈ l.map (fun p => (Value.int .i64 p.1, p.2)) := by rw [← h2]; exact List.mem_map.2 ⟨x, hx, rfl⟩
    obtain ⟨p, hp, e⟩ := List.mem_map.1 h4
    simp only [Prod.mk.injEq] at e
    refine ⟨p.1, by rw [← e.2]; exact hp, e.1.symm, ?_⟩
    rw [← e.1]
    exact keyOf_int_mk Try.underlying3 (WalkArith.wf_i64 (by have := h3 p hp; unfold In64 at this; omega))
  have hr : ∀ x ∈ es.toList, rd Try.prog 3 anyR x = (keyOf Try.prog 3 x.key).map fun k => (k, .lit (.bool true)) := fun x _ => by
    unfold rd; cases keyOf Try.prog 3 x.key <;> rfl
  refine ⟨_, ⟨es, clock, hb, ⟨by rw [hlen]; simp only [maxLen]; omega, h1, fun x hx => ?_⟩, by omega, rfl⟩, ?_, ?_⟩
  · obtain ⟨a, _, _, h5⟩ := hk x hx
    exact ⟨_, by rw [hr x hx, h5]; rfl⟩
  · simp only [intKeys]
    refine ((WideShapes.sorted_perm _).map _).trans (List.Perm.of_eq ?_)
    have e1 : l.map (·.1) = (es.toList.map fun e => (e.key, e.val)).map fun q => match q.1 with | .int _ a => a | _ => 0 := by rw [h2]; simp
    rw [e1]
    simp only [List.map_map]
    refine List.map_congr_left fun x hx => ?_
    obtain ⟨a, _, h6, h5⟩ := hk x hx
    rw [h6] at h5
    simp only [Function.comp, WideElems.rg, hr x hx, h6, h5, Option.map_some, Option.getD_some, Go.intOf]
  · simp only [Maps.size, (WideShapes.sorted_perm _).length_eq, List.length_map, Array.length_toList, hlen]
end Go.Proofs.Ytdlimjcidblneaa
