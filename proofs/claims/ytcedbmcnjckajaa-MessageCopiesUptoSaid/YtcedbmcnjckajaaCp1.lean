/-
  Messages: clones, and entries that are written.
-/
import Derived.Test.YtcedbmcnjckajaaMsg9
import Derived.Test.YtcedbmcnjckajaaCp0
namespace Go.Proofs.Ytcedbmcnjckajaa
open Go Go.RowKit Sl Go.Shelf
set_option maxHeartbeats 4000000
set_option maxRecDepth 8000

theorem clone_ints {w0 w : World} {L : List HP} {A : Option Addr} {c : Nat} (l : List Int) (hl : l.length ≤ 4294967296) (hs : Sat w0 w L) (hR : Rd w0 L A l.length 1 (I8 l)) :
    Calls Try.prog 38 #[.slice A l.length c] w (fun r w' => ∃ A' c', r = .returned (.slice A' l.length c') ∧ Sat w0 w' (own 3 1 A' c' l.length (I8 l) :: L)) := by
  have h1 := fun (w : World) => Lib.run_eql_slice_nil (P := Try.prog) w 23 3 A l.length c 0 0 Try.underlying23
  cases A with
  | none =>
    obtain rfl : l = [] := List.eq_nil_of_length_eq_zero ((hR w hs).nil rfl)
    have h1 := fun (w : World) => Lib.run_eql_slice_nil (P := Try.prog) w 23 3 none 0 c 0 0 Try.underlying23
    simp only [Option.isNone_none] at h1
    go_enter Try.func38, Try.ntmps38
    go_wp2_with (first | (first | ((with_reducible apply wl_unguard); rfl) | ((with_reducible apply wl_buildSlice); assumption; rfl; (go_simp; rfl); (simp [Value.cells]); omega; intro b w1 hs1) | ((with_reducible apply wl_append); go_must (assumption; rfl; rfl; (repeat (first | exact Out.here _ | apply Out.there)); (repeat (first | assumption | exact Rd.own | exact Rd.nil | apply Rd.cons)); (first | exact B8_one _ | exact I8_one _ | (simp [Value.oneCell'])); (first | omega | (simp only [maxLen]; omega)); omega; intro A1 c1 w1 hs1 hc1; (try ((refine hs1.own_elim ?_ ?_); omega; rintro g1 rfl)); try simp only [Nat.zero_add, List.nil_append] at hs1 hc1)) | ((with_reducible apply wl_store_own); assumption; rfl; (go_simp; rfl); (repeat (first | exact Out.here _ | apply Out.there)); rfl; rfl; omega; intro w1 hs1) | ((with_reducible apply wl_store1); assumption; rfl; (go_simp; rfl); (repeat (first | exact Out.here _ | apply Out.there)); rfl; rfl; simp; intro w1 hs1; (try simp only [List.setIfInBounds_toArray] at hs1); (try simp only [List.set_cons_succ] at hs1); (try simp only [List.set_cons_zero] at hs1)) | ((with_reducible apply wl_load); assumption; rfl; (repeat (first | assumption | exact Cl.blk rfl | apply Cl.cons))) | ((with_reducible apply wl_b2s); assumption; rfl; (repeat (first | assumption | exact Rd.own | exact Rd.nil | apply Rd.cons)); first | rfl | (simp [B8_app]))) | fail)
    go_ret
    exact ⟨none, 0, rfl, hs.own_nil _ _⟩
  | some a =>
    simp only [Option.isNone_some] at h1
    go_enter Try.func38, Try.ntmps38
    go_wp2_with (first | (first | ((with_reducible apply wl_unguard); rfl) | ((with_reducible apply wl_buildSlice); assumption; rfl; (go_simp; rfl); (simp [Value.cells]); omega; intro b w1 hs1) | ((with_reducible apply wl_append); go_must (assumption; rfl; rfl; (repeat (first | exact Out.here _ | apply Out.there)); (repeat (first | assumption | exact Rd.own | exact Rd.nil | apply Rd.cons)); (first | exact B8_one _ | exact I8_one _ | (simp [Value.oneCell'])); (first | omega | (simp only [maxLen]; omega)); omega; intro A1 c1 w1 hs1 hc1; (try ((refine hs1.own_elim ?_ ?_); omega; rintro g1 rfl)); try simp only [Nat.zero_add, List.nil_append] at hs1 hc1)) | ((with_reducible apply wl_store_own); assumption; rfl; (go_simp; rfl); (repeat (first | exact Out.here _ | apply Out.there)); rfl; rfl; omega; intro w1 hs1) | ((with_reducible apply wl_store1); assumption; rfl; (go_simp; rfl); (repeat (first | exact Out.here _ | apply Out.there)); rfl; rfl; simp; intro w1 hs1; (try simp only [List.setIfInBounds_toArray] at hs1); (try simp only [List.set_cons_succ] at hs1); (try simp only [List.set_cons_zero] at hs1)) | ((with_reducible apply wl_load); assumption; rfl; (repeat (first | assumption | exact Cl.blk rfl | apply Cl.cons))) | ((with_reducible apply wl_b2s); assumption; rfl; (repeat (first | assumption | exact Rd.own | exact Rd.nil | apply Rd.cons)); first | rfl | (simp [B8_app]))) | fail)
    go_ret
    exact ⟨_, _, rfl, hs1.pick (by (repeat (first | exact Pick.nil _ | exact Pick.tail _ | exact Out.here _ | apply Out.there | apply Pick.cons | apply Pick.drop)))⟩

theorem clone_ents {w0 w : World} {L : List HP} {A : Option Addr} {c : Nat} (l : List (Ent × Option Addr × Nat)) (hl : l.length ≤ 1048576) (hs : Sat w0 w L) (hR : Rd w0 L A l.length 4 (entsCells l)) :
    Calls Try.prog 40 #[.slice A l.length c] w (fun r w' => ∃ A' c', r = .returned (.slice A' l.length c') ∧ Sat w0 w' (own 41 4 A' c' l.length (entsCells l) :: L)) := by
  have h1 := fun (w : World) => Lib.run_eql_slice_nil (P := Try.prog) w 22 41 A l.length c 0 0 Try.underlying22
  cases A with
  | none =>
    obtain rfl : l = [] := List.eq_nil_of_length_eq_zero ((hR w hs).nil rfl)
    have h1 := fun (w : World) => Lib.run_eql_slice_nil (P := Try.prog) w 22 41 none 0 c 0 0 Try.underlying22
    simp only [Option.isNone_none] at h1
    go_enter Try.func40, Try.ntmps40
    go_wp2_with (first | (first | ((with_reducible apply wl_unguard); rfl) | ((with_reducible apply wl_buildSlice); assumption; rfl; (go_simp; rfl); (simp [Value.cells]); omega; intro b w1 hs1) | ((with_reducible apply wl_append); go_must (assumption; rfl; rfl; (repeat (first | exact Out.here _ | apply Out.there)); (repeat (first | assumption | exact Rd.own | exact Rd.nil | apply Rd.cons)); (first | exact B8_one _ | exact I8_one _ | (simp [Value.oneCell'])); (first | omega | (simp only [maxLen]; omega)); omega; intro A1 c1 w1 hs1 hc1; (try ((refine hs1.own_elim ?_ ?_); omega; rintro g1 rfl)); try simp only [Nat.zero_add, List.nil_append] at hs1 hc1)) | ((with_reducible apply wl_store_own); assumption; rfl; (go_simp; rfl); (repeat (first | exact Out.here _ | apply Out.there)); rfl; rfl; omega; intro w1 hs1) | ((with_reducible apply wl_store1); assumption; rfl; (go_simp; rfl); (repeat (first | exact Out.here _ | apply Out.there)); rfl; rfl; simp; intro w1 hs1; (try simp only [List.setIfInBounds_toArray] at hs1); (try simp only [List.set_cons_succ] at hs1); (try simp only [List.set_cons_zero] at hs1)) | ((with_reducible apply wl_load); assumption; rfl; (repeat (first | assumption | exact Cl.blk rfl | apply Cl.cons))) | ((with_reducible apply wl_b2s); assumption; rfl; (repeat (first | assumption | exact Rd.own | exact Rd.nil | apply Rd.cons)); first | rfl | (simp [B8_app]))) | fail)
    go_ret
    exact ⟨none, 0, rfl, hs.own_nil _ _⟩
  | some a =>
    simp only [Option.isNone_some] at h1
    have hsA : Sat w0 (w.alloc (.cells #[] 41 (0, 0))) (Sl.own 41 4 (some ⟨w.heap.size, 0, none⟩) 0 0 [] :: L) := Sat.own_mk (hs.alloc (.cells #[] 41 (0, 0))) rfl (Nat.le_refl _) (Nat.zero_le _) rfl rfl
    go_enter Try.func40, Try.ntmps40
    go_wp2_with (first | ((with_reducible apply wl_append); go_must (assumption; rfl; rfl; (repeat (first | exact Out.here _ | apply Out.there)); (repeat (first | assumption | exact Rd.own | exact Rd.nil | apply Rd.cons)); (exact entsCells_one _); (first | omega | (simp only [maxLen]; omega)); omega; intro A1 c1 w1 hs1 hc1; try simp only [Nat.zero_add, List.nil_append] at hs1 hc1)) | fail)
    go_ret
    exact ⟨_, _, rfl, hs1.pick (by (repeat (first | exact Pick.nil _ | exact Pick.tail _ | exact Out.here _ | apply Out.there | apply Pick.cons | apply Pick.drop)))⟩

/-- Another pointer to an entry's data. -/
theorem entsCells_data {A : Option Addr} {c : Nat} : ∀ {l : List (Ent × Option Addr × Nat)} {k : Nat} {y : Ent × Option Addr × Nat}, l[k]? = some y → (entsCells l).set (k * 4 + 3) (.slice A y.1.d.length c) = entsCells (l.set k (y.1, A, c))
  | [], k, y, h => by simp at h
  | z :: l, 0, y, h => by simp at h; subst h; simp [entsCells, entCells]
  | z :: l, k + 1, y, h => by
    have h1 : l[k]? = some y := by simpa using h
    have ih := entsCells_data (A := A) (c := c) h1
    have e : (k + 1) * 4 + 3 = (k * 4 + 3) + 1 + 1 + 1 + 1 := by omega
    rw [e]
    simp only [entsCells, entCells, List.map_cons, List.flatten_cons, List.cons_append, List.nil_append, List.set_cons_succ] at ih ⊢
    rw [ih]

/-- Another term. -/
theorem entsCells_term {v : Int} : ∀ {l : List (Ent × Option Addr × Nat)} {k : Nat} {y : Ent × Option Addr × Nat}, l[k]? = some y → (entsCells l).set (k * 4) (.int .i64 v) = entsCells (l.set k ({ y.1 with t := v }, y.2))
  | [], k, y, h => by simp at h
  | z :: l, 0, y, h => by simp at h; subst h; simp [entsCells, entCells]
  | z :: l, k + 1, y, h => by
    have h1 : l[k]? = some y := by simpa using h
    have ih := entsCells_term (v := v) h1
    have e : (k + 1) * 4 = (k * 4) + 1 + 1 + 1 + 1 := by omega
    rw [e]
    simp only [entsCells, entCells, List.map_cons, List.flatten_cons, List.cons_append, List.nil_append, List.set_cons_succ] at ih ⊢
    rw [ih]

/-- What an entry's cells are, one by one. -/
theorem entsCells_dataAt {l : List (Ent × Option Addr × Nat)} {k : Nat} {y : Ent × Option Addr × Nat} (h : l[k]? = some y) : (entsCells l)[k * 4 + 3]? = some (.slice y.2.1 y.1.d.length y.2.2) := by
  have h1 := congrArg (fun z : List Value => z[3]?) (entsCells_at l k y h)
  simp only [entCells, List.getElem?_take, List.getElem?_drop] at h1
  simpa using h1

def dataOwn (y : Ent × Option Addr × Nat) : HP := own 5 1 y.2.1 y.2.2 y.1.d.length (B8 y.1.d)
def dataAny (y : Ent × Option Addr × Nat) : HP := ownAny 5 y.2.1 y.2.2 y.1.d.length

theorem SatH_map {α : Type} {f g : α → HP} (h : ∀ x a, f x a → g x a) : ∀ {l : List α} {H : Hl}, SatH (l.map f) H → SatH (l.map g) H
  | [], _, _ => trivial
  | _ :: _, _, ⟨a, b, h1, h2, h3⟩ => ⟨a, b, h _ _ h1, SatH_map h h2, h3⟩

theorem data_any {w0 w : World} {L : List HP} {l : List (Ent × Option Addr × Nat)} (hs : Sat w0 w (SatH (l.map dataOwn) :: L)) : Sat w0 w (SatH (l.map dataAny) :: L) :=
  hs.to_head fun _ H => SatH_map (fun _ _ h => ⟨_, h⟩) H

theorem data_rd {w0 : World} {L : List HP} {l : List (Ent × Option Addr × Nat)} {y : Ent × Option Addr × Nat} (hm : y ∈ l) : Rd w0 (SatH (l.map dataOwn) :: L) y.2.1 y.1.d.length 1 (B8 y.1.d) := by
  intro w hs
  obtain ⟨k, hk⟩ := List.mem_iff_getElem?.1 hm
  have h1 : (l.map dataOwn)[k]? = some (dataOwn y) := by rw [List.getElem?_map, hk]; rfl
  have h2 : Sat w0 w (own 5 1 y.2.1 y.2.2 y.1.d.length (B8 y.1.d) :: SatH ((l.map dataOwn).eraseIdx k) :: L) := hs.bag_take h1
  exact Rd.own w h2

theorem Cl.own_of {w0 w : World} {L : List HP} {g c n sz k : Nat} {E : TypeId} {xs : List Value} {v : Value} (_ : Sat w0 w (Sl.own E sz (some ⟨g, 0, none⟩) c n xs :: L)) (h : xs[k]? = some v) : Cl w0 (Sl.own E sz (some ⟨g, 0, none⟩) c n xs :: L) ⟨g, k, none⟩ v := by
  have := (Rd.own (w0 := w0) (L := L) (E := E) (sz := sz) (A := some ⟨g, 0, none⟩) (c := c) (n := n) (xs := xs)).cell_at h
  simpa using this
end Go.Proofs.Ytcedbmcnjckajaa
