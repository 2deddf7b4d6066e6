/-
  The disk: what Crash needs; of files and of directories.
-/
import Derived.Test.YtiofgdgmlnhekaaVd13
namespace Sl
open Go Go.RowKit
section
variable {P : Program} {ops : Array Oper} {Q : Exit → Act → World → Prop} {w0 : World} {L : List HP}
theorem rg_start3 {id : Nat} {a : Act} {w : World} {L' : List HP} (hm : P.follows .mixedOrders = true) (hs : Sat w0 w L') (hE : ∀ w, Sat w0 w L' → Sat w0 w L)
    (h : ∀ w1, Sat w0 w1 L' → Sat w0 w1 L → rg P ops Q w0 L ops.size (Array.replicate ops.size false) a w1) : (Code.region id ops true).wp P Q a w := by
  unfold rg at h
  exact wp_region_held_drew hm (S := fun w' => Sat w0 w' L) (hE _ hs.drew) fun h1 => h _ hs.drew h1
end

/-- The second cell of a block. -/
def sCell (a : Nat) (v : Value) : HP := fun h => ∃ cur E, h a = some (.cells cur E (0, 0)) ∧ cur[1]? = some v

theorem Cl.sCell {w0 : World} {L : List HP} {a : Nat} {v : Value} : Cl w0 (sCell a v :: L) ⟨a, 1, none⟩ v := by
  intro w hs
  obtain ⟨h1, h2, ⟨cur, E, ha, hc⟩, _, _, h4, _⟩ := hs.heap
  have := h4 _ _ ha
  have h5 : w.heap[a]? = some (.cells cur E (0, 0)) := this
  simp [World.cell?, h5, hc]

theorem Sat.sCell {w0 w : World} {L : List HP} {a : Nat} {cur : Array Value} {E : TypeId} {v : Value} (hs : Sat w0 w (blk a (.cells cur E (0, 0)) :: L)) (h : cur[1]? = some v) : Sat w0 w [Sl.sCell a v] :=
  (hs.to_head (q := Sl.sCell a v) fun _ hb => ⟨cur, E, hb, h⟩).pick (.cons (.here _) (.nil _))

theorem own_shrink {w0 w : World} {L : List HP} {E : TypeId} {A : Option Addr} {c n k : Nat} {xs : List Value} (hk : k ≤ n) (hs : Sat w0 w (own E 1 A c n xs :: L)) : Sat w0 w (own E 1 A c k (xs.take k) :: L) := by
  obtain ⟨hx, h⟩ := hs.own_inv
  rcases h with ⟨rfl, rfl, rfl⟩ | ⟨g, cur, rfl, hs', h3, h4, h5, h6⟩
  · obtain rfl : k = 0 := by omega
    have h0 : xs = [] := List.eq_nil_of_length_eq_zero (by simpa using hx)
    subst h0
    exact hs
  · refine Sat.own_mk hs' ?_ (by omega) h4 h5 ?_
    · simp only [List.length_take, Nat.mul_one] at hx ⊢; omega
    · rw [← h6, List.take_take]
      congr 1
      omega

theorem filterMap_at {α β : Type} {g : α → Option β} : ∀ {l : List α}, (∀ x ∈ l, ∃ f, g x = some f) → ∀ {j : Nat} {x : α}, l[j]? = some x → ∃ f, g x = some f ∧ (l.filterMap g).drop j = f :: (l.filterMap g).drop (j + 1)
  | [], _, _, _, h => by simp at h
  | y :: l, hl, 0, x, h => by
    simp at h; subst h
    obtain ⟨f, hf⟩ := hl y (by simp)
    exact ⟨f, hf, by rw [List.filterMap_cons, hf]; simp⟩
  | y :: l, hl, j + 1, x, h => by
    obtain ⟨f, hf⟩ := hl y (by simp)
    obtain ⟨f', h1, h2⟩ := filterMap_at (l := l) (fun z hz => hl z (by simp [hz])) (j := j) (x := x) (by simpa using h)
    refine ⟨f', h1, ?_⟩
    rw [List.filterMap_cons, hf]
    simpa using h2

theorem filterMap_len {α β : Type} {g : α → Option β} : ∀ {l : List α}, (∀ x ∈ l, ∃ f, g x = some f) → (l.filterMap g).length = l.length
  | [], _ => rfl
  | y :: l, hl => by
    obtain ⟨f, hf⟩ := hl y (by simp)
    have ih := filterMap_len (l := l) (g := g) (fun z hz => hl z (List.mem_cons_of_mem _ hz))
    rw [List.filterMap_cons, hf]
    simp only [List.length_cons, ih]

theorem dget_some {d : Dr} {x : Nm} (h : x ∈ d.map (·.1)) : ∃ f, dget d x = some f := by
  obtain ⟨p, hp, rfl⟩ := List.mem_map.1 h
  unfold dget
  cases hf : d.find? (fun q => decide (q.1 = p.1)) with
  | none => have := List.find?_eq_none.1 hf p hp; simp at this
  | some q => exact ⟨q.2, rfl⟩

theorem Sat.own_addr {w0 w : World} {L : List HP} {E : TypeId} {A : Option Addr} {c n : Nat} {xs : List Value} (hs : Sat w0 w (own E 1 A c n xs :: L)) : (if c = 0 then A else A.map (·.add (0 * 1))) = A := by
  obtain ⟨_, h⟩ := hs.own_inv
  rcases h with ⟨rfl, rfl, rfl⟩ | ⟨g, cur, rfl, _⟩
  · simp
  · simp [addr_add]
end Sl
