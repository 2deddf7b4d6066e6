/-
  Messages: Own of the laws (in memory of its own).
-/
import Derived.Test.YtcedbmcnjckajaaMsg4
import Derived.Test.YtcedbmcnjckajaaEnts
namespace Go.Proofs.Ytcedbmcnjckajaa
open Go Go.RowKit Sl Go.Shelf
set_option maxHeartbeats 20000000
set_option maxRecDepth 8000

/-- An entry's four cells, its bytes at p. -/
def entCells (x : Ent) (p : Option Addr × Nat) : List Value := [.int .i64 x.t, .int .i64 x.i, .int .i64 x.k, .slice p.1 x.d.length p.2]
def entsCells (l : List (Ent × Option Addr × Nat)) : List Value := (l.map fun y => entCells y.1 y.2).flatten
def entsData (l : List (Ent × Option Addr × Nat)) : List (Option Addr × List UInt8) := l.map fun y => (y.2.1, y.1.d)

theorem entsCells_length (l : List (Ent × Option Addr × Nat)) : (entsCells l).length = l.length * 4 := by
  induction l with
  | nil => rfl
  | cons y l ih => simp only [entsCells, List.map_cons, List.flatten_cons, List.length_append, List.length_cons] at ih ⊢; rw [ih]; simp [entCells]; omega

theorem entsCells_at (l : List (Ent × Option Addr × Nat)) : ∀ (i : Nat) (y : Ent × Option Addr × Nat), l[i]? = some y → ((entsCells l).drop (i * 4)).take 4 = entCells y.1 y.2 := by
  induction l with
  | nil => intro i y h; simp at h
  | cons z l ih =>
    intro i y h
    have e : entsCells (z :: l) = entCells z.1 z.2 ++ entsCells l := by simp [entsCells]
    cases i with
    | zero => simp at h; subst h; rw [e]; simp [entCells]
    | succ i =>
      have h' : l[i]? = some y := by simpa using h
      rw [e, show (i + 1) * 4 = 4 + i * 4 from by omega, ← List.drop_drop]
      rw [show (entCells z.1 z.2 ++ entsCells l).drop 4 = entsCells l from by simp [entCells]]
      exact ih i y h'

theorem entsCells_snoc (l : List (Ent × Option Addr × Nat)) (y : Ent × Option Addr × Nat) : entsCells (l ++ [y]) = entsCells l ++ entCells y.1 y.2 := by simp [entsCells]

theorem entsCells_one (l : List (Ent × Option Addr × Nat)) : ∀ u ∈ entsCells l, u.oneCell' = true := by
  intro u hu
  simp only [entsCells, List.mem_flatten, List.mem_map] at hu
  obtain ⟨c, ⟨y, _, rfl⟩, hu⟩ := hu
  simp only [entCells, List.mem_cons, List.not_mem_nil, or_false] at hu
  rcases hu with rfl | rfl | rfl | rfl <;> rfl

/-- Entries of one's own, as a slice of structs that reads. -/
theorem ents_slV {w0 : World} {L : List HP} {A : Option Addr} {c : Nat} (l : List (Ent × Option Addr × Nat)) (h64 : ∀ y ∈ l, In64 y.1.t ∧ In64 y.1.i ∧ In64 y.1.k)
    (hR : Rd w0 L A l.length 4 (entsCells l)) (hD : ∀ y ∈ l, Rd w0 L y.2.1 y.1.d.length 1 (B8 y.1.d)) : SlV EntV 4 (Rd w0 L) [.slice A l.length c] (l.map (·.1)) := by
  refine ⟨A, c, entsCells l, by simp, by simpa using hR, by rw [entsCells_length]; simp, fun i x hx => ?_⟩
  rw [List.getElem?_map] at hx
  cases hy : l[i]? with
  | none => rw [hy] at hx; simp at hx
  | some y =>
    rw [hy] at hx
    simp only [Option.map_some, Option.some.injEq] at hx
    subst hx
    have hm := List.mem_of_getElem? hy
    refine ⟨⟨y.2.1, y.2.2, entsCells_at l i y hy, hD y hm⟩, h64 y hm⟩

theorem entsData_snoc (l : List (Ent × Option Addr × Nat)) (y : Ent × Option Addr × Nat) : entsData (l ++ [y]) = entsData l ++ [(y.2.1, y.1.d)] := by simp [entsData]

theorem take_snoc {α : Type} {es : List α} {k : Nat} {x : α} (h : es[k]? = some x) : es.take (k + 1) = es.take k ++ [x] := by rw [List.take_add_one, h]; rfl

/-- The cells of a message of one's own. -/
def msgCells (m : Msg) (A B C : Option Addr) (ca cb cc : Nat) : Array Value := #[.int .i64 m.kd, .int .i64 m.fr, .int .i64 m.dn, .int .i64 m.tm, .int .i64 m.na, .int .i64 m.nb, .int .i64 m.nc, .int .i64 m.nd, .bool m.yes, .slice A m.es.length ca, .slice B m.sv.length cb, .slice C m.dt.length cc]

/-- A message in memory of its own. -/
def RetOM (w0 : World) (L : List HP) (m : Msg) (e : Ending) (w' : World) : Prop :=
  ∃ (A B C : Option Addr) (ca cb cc : Nat) (ys : List (Ent × Option Addr × Nat)), ys.map (·.1) = m.es ∧ e = .returned (.agg (msgCells m A B C ca cb cc)) ∧
    Sat w0 w' (own 41 4 A ca m.es.length (entsCells ys) :: DV (entsData ys) :: own 3 1 B cb m.sv.length (I8 m.sv) :: own 5 1 C cc m.dt.length (B8 m.dt) :: L)

theorem own3_spec {w0 w : World} {L : List HP} {A : Option Addr} {c : Nat} (t i k : Int) (d : List UInt8) (hl : d.length ≤ 4294967296) (hs : Sat w0 w L) (hR : Rd w0 L A d.length 1 (B8 d)) :
    Calls Try.prog 20 #[.agg #[.int .i64 t, .int .i64 i, .int .i64 k, .slice A d.length c]] w (RetRE w0 L ⟨t, i, k, d⟩) := own_spec hl hs hR


theorem own4_spec {w0 w : World} {L : List HP} {A B C : Option Addr} {ca cb cc : Nat} (kd fr dn tm na nb nc nd : Int) (yes : Bool) (es : List Ent) (sv : List Int) (dt : List UInt8)
    (he : es.length ≤ 1048576) (hv : sv.length ≤ 1048576) (hd : dt.length ≤ 1048576) (hlen : ∀ x ∈ es, x.d.length ≤ 1048576) (hs : Sat w0 w L)
    (hE : SlV EntV 4 (Rd w0 L) [.slice A es.length ca] es) (hB : Rd w0 L B sv.length 1 (I8 sv)) (hC : Rd w0 L C dt.length 1 (B8 dt)) :
    Calls Try.prog 9 #[.agg #[.int .i64 kd, .int .i64 fr, .int .i64 dn, .int .i64 tm, .int .i64 na, .int .i64 nb, .int .i64 nc, .int .i64 nd, .bool yes, .slice A es.length ca, .slice B sv.length cb, .slice C dt.length cc]] w
      (RetOM w0 L ⟨kd, fr, dn, tm, na, nb, nc, nd, yes, es, sv, dt⟩) := by
  obtain ⟨A', ca', vs, he1, hRv, hvl, hel⟩ := hE
  simp only [List.cons.injEq, Value.slice.injEq, and_true, true_and] at he1
  obtain ⟨rfl, rfl⟩ := he1
  go_enter Try.func9, Try.ntmps9
  have hs0 := hs.own_nil 3 1
  refine wk_seq (fun K0 hK0 => ?_)
  refine wk_reg ?_
  refine pl_eff rfl (fun Kp hKp => ?_)
  ((with_reducible apply st_box); assumption; (go_simp; rfl); intro b1 w1 hs1; simp only [Value.cells] at hs1)
  refine hKp.out _ _ ?_
  clear hKp Kp
  (try simp only [Act.put, aP, aZ, aS])
  refine pl_eff rfl (fun Kp hKp => ?_)
  ((with_reducible apply st_alloc); assumption; intro b2 w2 hs2; simp only [Value.cells] at hs2)
  refine hKp.out _ _ ?_
  clear hKp Kp
  (try simp only [Act.put, aP, aZ, aS])
  refine pl_done ?_
  refine hK0.out _ _ ?_
  (try clear hK0 K0)
  refine wk_seq (fun K1 hK1 => ?_)
  -- at a cut
  go_cut [3] from 5 to 31 (fun s3 w => ∃ b3 A1 c1 A2 c2, s3 = .pointer (some ⟨b3, 0, none⟩) ∧ Sat w0 w (blk b3 (.cells #[.int .i64 kd, .int .i64 fr, .int .i64 dn, .int .i64 tm, .int .i64 na, .int .i64 nb, .int .i64 nc, .int .i64 nd, .bool yes, .slice none 0 0, .slice A1 sv.length c1, .slice A2 dt.length c2] 27 (0, 0)) :: own 3 1 A1 c1 sv.length (I8 sv) :: own 5 1 A2 c2 dt.length (B8 dt) :: blk b1 (.cells #[.int .i64 kd, .int .i64 fr, .int .i64 dn, .int .i64 tm, .int .i64 na, .int .i64 nb, .int .i64 nc, .int .i64 nd, .bool yes, .slice A es.length ca, .slice B sv.length cb, .slice C dt.length cc] 26 (0, 0)) :: blk b2 (.cells #[.int .i64 0, .int .i64 0, .int .i64 0, .int .i64 0, .int .i64 0, .int .i64 0, .int .i64 0, .int .i64 0, .bool false, .slice none 0 0, .slice none 0 0, .slice none 0 0] 27 (0, 0)) :: L))
  case first =>
    refine rg_start rfl (by assumption) (fun wr1 hsr1 => ?_)
    refine rg_take (i := 0) (v := ?_) rfl (by kernel_rfl) (by kernel_rfl) (by kernel_rfl) (fun _ _ _ h => h) rfl (by assumption) ?_ ?_
    rotate_left
    · intro w hSw; (go_simp; first | done | with_reducible rfl | rfl | omega | assumption | (simp; omega))
    (try simp only [Act.put, aP, aZ, aS])
    refine rg_take (i := 1) (v := ?_) rfl (by kernel_rfl) (by kernel_rfl) (by kernel_rfl) (fun _ _ _ h => h) rfl (by assumption) ?_ ?_
    rotate_left
    · intro w hSw; ((with_reducible apply yl_load); assumption; rfl; (repeat (first | with_reducible assumption | ((with_reducible apply Cl.own); exact rfl) | ((with_reducible apply Cl.blkL); exact rfl) | with_reducible apply Cl.cons)); rfl)
    (try simp only [Act.put, aP, aZ, aS])
    refine rg_take (i := 2) (v := ?_) rfl (by kernel_rfl) (by kernel_rfl) (by kernel_rfl) (fun _ _ _ h => h) rfl (by assumption) ?_ ?_
    rotate_left
    · intro w hSw; (go_simp; first | done | with_reducible rfl | rfl | omega | assumption | (simp; omega))
    (try simp only [Act.put, aP, aZ, aS])
    refine rg_take (i := 3) (v := ?_) rfl (by kernel_rfl) (by kernel_rfl) (by kernel_rfl) (fun _ _ _ h => h) rfl (by assumption) ?_ ?_
    rotate_left
    · intro w hSw; ((with_reducible apply yl_load); assumption; rfl; (repeat (first | with_reducible assumption | ((with_reducible apply Cl.own); exact rfl) | ((with_reducible apply Cl.blkL); exact rfl) | with_reducible apply Cl.cons)); rfl)
    (try simp only [Act.put, aP, aZ, aS])
    refine rg_take (i := 4) (v := ?_) rfl (by kernel_rfl) (by kernel_rfl) (by kernel_rfl) (fun _ _ _ h => h) rfl (by assumption) ?_ ?_
    rotate_left
    · intro w hSw; (go_simp; first | done | with_reducible rfl | rfl | omega | assumption | (simp; omega))
    (try simp only [Act.put, aP, aZ, aS])
    refine rg_take (i := 5) (v := ?_) rfl (by kernel_rfl) (by kernel_rfl) (by kernel_rfl) (fun _ _ _ h => h) rfl (by assumption) ?_ ?_
    rotate_left
    · intro w hSw; ((with_reducible apply yl_load); assumption; rfl; (repeat (first | with_reducible assumption | ((with_reducible apply Cl.own); exact rfl) | ((with_reducible apply Cl.blkL); exact rfl) | with_reducible apply Cl.cons)); rfl)
    (try simp only [Act.put, aP, aZ, aS])
    refine rg_take (i := 6) (v := ?_) rfl (by kernel_rfl) (by kernel_rfl) (by kernel_rfl) (fun _ _ _ h => h) rfl (by assumption) ?_ ?_
    rotate_left
    · intro w hSw; (go_simp; first | done | with_reducible rfl | rfl | omega | assumption | (simp; omega))
    (try simp only [Act.put, aP, aZ, aS])
    refine rg_take (i := 7) (v := ?_) rfl (by kernel_rfl) (by kernel_rfl) (by kernel_rfl) (fun _ _ _ h => h) rfl (by assumption) ?_ ?_
    rotate_left
    · intro w hSw; ((with_reducible apply yl_load); assumption; rfl; (repeat (first | with_reducible assumption | ((with_reducible apply Cl.own); exact rfl) | ((with_reducible apply Cl.blkL); exact rfl) | with_reducible apply Cl.cons)); rfl)
    (try simp only [Act.put, aP, aZ, aS])
    refine rg_take (i := 8) (v := ?_) rfl (by kernel_rfl) (by kernel_rfl) (by kernel_rfl) (fun _ _ _ h => h) rfl (by assumption) ?_ ?_
    rotate_left
    · intro w hSw; (go_simp; first | done | with_reducible rfl | rfl | omega | assumption | (simp; omega))
    (try simp only [Act.put, aP, aZ, aS])
    refine rg_take (i := 9) (v := ?_) rfl (by kernel_rfl) (by kernel_rfl) (by kernel_rfl) (fun _ _ _ h => h) rfl (by assumption) ?_ ?_
    rotate_left
    · intro w hSw; ((with_reducible apply yl_load); assumption; rfl; (repeat (first | with_reducible assumption | ((with_reducible apply Cl.own); exact rfl) | ((with_reducible apply Cl.blkL); exact rfl) | with_reducible apply Cl.cons)); rfl)
    (try simp only [Act.put, aP, aZ, aS])
    refine rg_take (i := 10) (v := ?_) rfl (by kernel_rfl) (by kernel_rfl) (by kernel_rfl) (fun _ _ _ h => h) rfl (by assumption) ?_ ?_
    rotate_left
    · intro w hSw; (go_simp; first | done | with_reducible rfl | rfl | omega | assumption | (simp; omega))
    (try simp only [Act.put, aP, aZ, aS])
    refine rg_take (i := 11) (v := ?_) rfl (by kernel_rfl) (by kernel_rfl) (by kernel_rfl) (fun _ _ _ h => h) rfl (by assumption) ?_ ?_
    rotate_left
    · intro w hSw; ((with_reducible apply yl_load); assumption; rfl; (repeat (first | with_reducible assumption | ((with_reducible apply Cl.own); exact rfl) | ((with_reducible apply Cl.blkL); exact rfl) | with_reducible apply Cl.cons)); rfl)
    (try simp only [Act.put, aP, aZ, aS])
    refine rg_take (i := 12) (v := ?_) rfl (by kernel_rfl) (by kernel_rfl) (by kernel_rfl) (fun _ _ _ h => h) rfl (by assumption) ?_ ?_
    rotate_left
    · intro w hSw; (go_simp; first | done | with_reducible rfl | rfl | omega | assumption | (simp; omega))
    (try simp only [Act.put, aP, aZ, aS])
    refine rg_take (i := 13) (v := ?_) rfl (by kernel_rfl) (by kernel_rfl) (by kernel_rfl) (fun _ _ _ h => h) rfl (by assumption) ?_ ?_
    rotate_left
    · intro w hSw; ((with_reducible apply yl_load); assumption; rfl; (repeat (first | with_reducible assumption | ((with_reducible apply Cl.own); exact rfl) | ((with_reducible apply Cl.blkL); exact rfl) | with_reducible apply Cl.cons)); rfl)
    (try simp only [Act.put, aP, aZ, aS])
    refine rg_take (i := 14) (v := ?_) rfl (by kernel_rfl) (by kernel_rfl) (by kernel_rfl) (fun _ _ _ h => h) rfl (by assumption) ?_ ?_
    rotate_left
    · intro w hSw; (go_simp; first | done | with_reducible rfl | rfl | omega | assumption | (simp; omega))
    (try simp only [Act.put, aP, aZ, aS])
    refine rg_take (i := 15) (v := ?_) rfl (by kernel_rfl) (by kernel_rfl) (by kernel_rfl) (fun _ _ _ h => h) rfl (by assumption) ?_ ?_
    rotate_left
    · intro w hSw; ((with_reducible apply yl_load); assumption; rfl; (repeat (first | with_reducible assumption | ((with_reducible apply Cl.own); exact rfl) | ((with_reducible apply Cl.blkL); exact rfl) | with_reducible apply Cl.cons)); rfl)
    (try simp only [Act.put, aP, aZ, aS])
    refine rg_take (i := 16) (v := ?_) rfl (by kernel_rfl) (by kernel_rfl) (by kernel_rfl) (fun _ _ _ h => h) rfl (by assumption) ?_ ?_
    rotate_left
    · intro w hSw; (go_simp; first | done | with_reducible rfl | rfl | omega | assumption | (simp; omega))
    (try simp only [Act.put, aP, aZ, aS])
    refine rg_take (i := 17) (v := ?_) rfl (by kernel_rfl) (by kernel_rfl) (by kernel_rfl) (fun _ _ _ h => h) rfl (by assumption) ?_ ?_
    rotate_left
    · intro w hSw; ((with_reducible apply yl_load); assumption; rfl; (repeat (first | with_reducible assumption | ((with_reducible apply Cl.own); exact rfl) | ((with_reducible apply Cl.blkL); exact rfl) | with_reducible apply Cl.cons)); rfl)
    (try simp only [Act.put, aP, aZ, aS])
    refine rg_take (i := 19) (v := ?_) rfl (by kernel_rfl) (by kernel_rfl) (by kernel_rfl) (fun _ _ _ h => h) rfl (by assumption) ?_ ?_
    rotate_left
    · intro w hSw; (go_simp; first | done | with_reducible rfl | rfl | omega | assumption | (simp; omega))
    (try simp only [Act.put, aP, aZ, aS])
    refine rg_take (i := 20) (v := ?_) rfl (by kernel_rfl) (by kernel_rfl) (by kernel_rfl) (fun _ _ _ h => h) rfl (by assumption) ?_ ?_
    rotate_left
    · intro w hSw; ((with_reducible apply yl_load); assumption; rfl; (repeat (first | with_reducible assumption | ((with_reducible apply Cl.own); exact rfl) | ((with_reducible apply Cl.blkL); exact rfl) | with_reducible apply Cl.cons)); rfl)
    (try simp only [Act.put, aP, aZ, aS])
    refine rg_take (i := 23) (v := ?_) rfl (by kernel_rfl) (by kernel_rfl) (by kernel_rfl) (fun _ _ _ h => h) rfl (by assumption) ?_ ?_
    rotate_left
    · intro w hSw; (go_simp; first | done | with_reducible rfl | rfl | omega | assumption | (simp; omega))
    (try simp only [Act.put, aP, aZ, aS])
    refine rg_take (i := 24) (v := ?_) rfl (by kernel_rfl) (by kernel_rfl) (by kernel_rfl) (fun _ _ _ h => h) rfl (by assumption) ?_ ?_
    rotate_left
    · intro w hSw; ((with_reducible apply yl_load); assumption; rfl; (repeat (first | with_reducible assumption | ((with_reducible apply Cl.own); exact rfl) | ((with_reducible apply Cl.blkL); exact rfl) | with_reducible apply Cl.cons)); rfl)
    (try simp only [Act.put, aP, aZ, aS])
    refine rg_three (i := 18) (j := 22) (k := 27) (by kernel_rfl) rfl rfl rfl rfl rfl rfl (fun Kp hKp => ?_) (fun Kp hKp => ?_) (fun Kp hKp => ?_)
    · ((with_reducible apply st_buildSlice); assumption; rfl; (go_simp; rfl); (simp [Value.cells]); omega; intro b23 w23 hs23)
      refine rg_back (hK := hKp) ?_ (fun hsk23 => ?_)
      · (first | assumption | (apply Sat.drew; assumption) | (apply Sat.pick; assumption; (repeat (first | exact Pick.nil _ | with_reducible exact Pick.tail _ | with_reducible exact Out.here _ | apply Out.there | apply Pick.cons | apply Pick.drop))))
      clear hKp Kp
      have hsz23 := hs23
      (try simp only [Act.put, aP, aZ, aS])
      refine rg_three (i := 21) (j := 22) (k := 27) (by kernel_rfl) rfl rfl rfl rfl rfl rfl (fun Kp hKp => ?_) (fun Kp hKp => ?_) (fun Kp hKp => ?_)
      · ((with_reducible apply st_append); go_must (assumption; rfl; rfl; (repeat (first | with_reducible exact Out.here _ | apply Out.there)); (repeat (first | with_reducible assumption | with_reducible exact Rd.own | with_reducible exact Rd.nil | with_reducible apply Rd.cons)); (first | exact B8_one _ | exact I8_one _ | (simp [Value.oneCell'])); (first | omega | (simp only [maxLen]; omega)); omega; intro A26 c26 w26 hs26 hc26; (try ((refine hs26.own_elim ?_ ?_); omega; rintro g26 rfl)); try simp only [Nat.zero_add, List.nil_append] at hs26 hc26))
        refine rg_back (hK := hKp) ?_ (fun hsk26 => ?_)
        · (first | assumption | (apply Sat.drew; assumption) | (apply Sat.pick; assumption; (repeat (first | exact Pick.nil _ | with_reducible exact Pick.tail _ | with_reducible exact Out.here _ | apply Out.there | apply Pick.cons | apply Pick.drop))))
        clear hKp Kp
        have hsz26 := hs26
        (try simp only [Act.put, aP, aZ, aS])
        refine rg_two (i := 22) (j := 27) (by kernel_rfl) rfl rfl rfl rfl (fun Kp hKp => ?_) (fun Kp hKp => ?_)
        · ((with_reducible apply st_buildSlice); assumption; rfl; (go_simp; rfl); (simp [Value.cells]); omega; intro b27 w27 hs27)
          refine rg_back (hK := hKp) ?_ (fun hsk27 => ?_)
          · (first | assumption | (apply Sat.drew; assumption) | (apply Sat.pick; assumption; (repeat (first | exact Pick.nil _ | with_reducible exact Pick.tail _ | with_reducible exact Out.here _ | apply Out.there | apply Pick.cons | apply Pick.drop))))
          clear hKp Kp
          have hsz27 := hs27
          (try simp only [Act.put, aP, aZ, aS])
          refine rg_two (i := 25) (j := 27) (by kernel_rfl) rfl rfl rfl rfl (fun Kp hKp => ?_) (fun Kp hKp => ?_)
          · ((with_reducible apply st_append); go_must (assumption; rfl; rfl; (repeat (first | with_reducible exact Out.here _ | apply Out.there)); (repeat (first | with_reducible assumption | with_reducible exact Rd.own | with_reducible exact Rd.nil | with_reducible apply Rd.cons)); (first | exact B8_one _ | exact I8_one _ | (simp [Value.oneCell'])); (first | omega | (simp only [maxLen]; omega)); omega; intro A30 c30 w30 hs30 hc30; (try ((refine hs30.own_elim ?_ ?_); omega; rintro g30 rfl)); try simp only [Nat.zero_add, List.nil_append] at hs30 hc30))
            refine rg_back (hK := hKp) ?_ (fun hsk30 => ?_)
            · (first | assumption | (apply Sat.drew; assumption) | (apply Sat.pick; assumption; (repeat (first | exact Pick.nil _ | with_reducible exact Pick.tail _ | with_reducible exact Out.here _ | apply Out.there | apply Pick.cons | apply Pick.drop))))
            clear hKp Kp
            have hsz30 := hs30
            (try simp only [Act.put, aP, aZ, aS])
            refine rg_take (i := 26) (v := ?_) rfl (by kernel_rfl) (by kernel_rfl) (by kernel_rfl) (fun _ _ _ h => h) rfl (by assumption) ?_ ?_
            rotate_left
            · intro w hSw; (go_simp; first | done | with_reducible rfl | rfl | omega | assumption | (simp; omega))
            (try simp only [Act.put, aP, aZ, aS])
            refine rg_one (i := 27) (by kernel_rfl) rfl rfl (fun Kp hKp => ?_)
            ((with_reducible apply st_alloc); assumption; intro b3 w3 hs3; simp only [Value.cells] at hs3)
            refine rg_back (hK := hKp) ?_ (fun hsk3 => ?_)
            · (first | assumption | (apply Sat.drew; assumption) | (apply Sat.pick; assumption; (repeat (first | exact Pick.nil _ | with_reducible exact Pick.tail _ | with_reducible exact Out.here _ | apply Out.there | apply Pick.cons | apply Pick.drop))))
            clear hKp Kp
            have hsz3 := hs3
            (try simp only [Act.put, aP, aZ, aS])
            refine rg_one (i := 28) (by kernel_rfl) rfl rfl (fun Kp hKp => ?_)
            (first | ((with_reducible apply st_storeAll); assumption; rfl; (go_simp; rfl); (repeat (first | with_reducible exact Out.here _ | apply Out.there)); rfl; (focus (first | (simp [Value.oneCell']; done) | (simp [Value.cells, Value.oneCell']; done))); rfl; intro wr1_28 hsr1_28; simp only [Value.cells] at hsr1_28) | ((with_reducible apply st_store); assumption; rfl; (go_simp; rfl); (repeat (first | with_reducible exact Out.here _ | apply Out.there)); rfl; (first | (focus (simp [Value.oneCell']; done)) | (simp [Value.cells, Value.oneCell'])); (first | (focus (simp; done)) | (simp [Value.cells])); intro wr1_28 hsr1_28; simp only [upd, Value.cells] at hsr1_28))
            refine rg_back (hK := hKp) ?_ (fun hskr1_28 => ?_)
            · (first | assumption | (apply Sat.drew; assumption) | (apply Sat.pick; assumption; (repeat (first | exact Pick.nil _ | with_reducible exact Pick.tail _ | with_reducible exact Out.here _ | apply Out.there | apply Pick.cons | apply Pick.drop))))
            clear hKp Kp
            have hszr1_28 := hsr1_28
            (try dsimp only [Act.put])
            refine rg_done (by kernel_rfl) ?_
            refine (by assumption : ∀ a' w', Met _ a' w' → _) _ _ ?_
            go_meet
            case rel => exact ⟨_, _, _, _, _, rfl, (by assumption : Sat w0 _ _).pick (by (repeat (first | exact Pick.nil _ | exact Pick.tail _ | exact Out.here _ | apply Out.there | apply Pick.cons | apply Pick.drop)))⟩
          · ((with_reducible apply st_alloc); assumption; intro b3 w3 hs3; simp only [Value.cells] at hs3)
            refine rg_back (hK := hKp) ?_ (fun hsk3 => ?_)
            · (first | assumption | (apply Sat.drew; assumption) | (apply Sat.pick; assumption; (repeat (first | exact Pick.nil _ | with_reducible exact Pick.tail _ | with_reducible exact Out.here _ | apply Out.there | apply Pick.cons | apply Pick.drop))))
            clear hKp Kp
            have hsz3 := hs3
            (try simp only [Act.put, aP, aZ, aS])
            refine rg_one (i := 25) (by kernel_rfl) rfl rfl (fun Kp hKp => ?_)
            ((with_reducible apply st_append); go_must (assumption; rfl; rfl; (repeat (first | with_reducible exact Out.here _ | apply Out.there)); (repeat (first | with_reducible assumption | with_reducible exact Rd.own | with_reducible exact Rd.nil | with_reducible apply Rd.cons)); (first | exact B8_one _ | exact I8_one _ | (simp [Value.oneCell'])); (first | omega | (simp only [maxLen]; omega)); omega; intro A30 c30 w30 hs30 hc30; (try ((refine hs30.own_elim ?_ ?_); omega; rintro g30 rfl)); try simp only [Nat.zero_add, List.nil_append] at hs30 hc30))
            refine rg_back (hK := hKp) ?_ (fun hsk30 => ?_)
            · (first | assumption | (apply Sat.drew; assumption) | (apply Sat.pick; assumption; (repeat (first | exact Pick.nil _ | with_reducible exact Pick.tail _ | with_reducible exact Out.here _ | apply Out.there | apply Pick.cons | apply Pick.drop))))
            clear hKp Kp
            have hsz30 := hs30
            (try simp only [Act.put, aP, aZ, aS])
            refine rg_take (i := 26) (v := ?_) rfl (by kernel_rfl) (by kernel_rfl) (by kernel_rfl) (fun _ _ _ h => h) rfl (by assumption) ?_ ?_
            rotate_left
            · intro w hSw; (go_simp; first | done | with_reducible rfl | rfl | omega | assumption | (simp; omega))
            (try simp only [Act.put, aP, aZ, aS])
            refine rg_one (i := 28) (by kernel_rfl) rfl rfl (fun Kp hKp => ?_)
            (first | ((with_reducible apply st_storeAll); assumption; rfl; (go_simp; rfl); (repeat (first | with_reducible exact Out.here _ | apply Out.there)); rfl; (focus (first | (simp [Value.oneCell']; done) | (simp [Value.cells, Value.oneCell']; done))); rfl; intro wr1_28 hsr1_28; simp only [Value.cells] at hsr1_28) | ((with_reducible apply st_store); assumption; rfl; (go_simp; rfl); (repeat (first | with_reducible exact Out.here _ | apply Out.there)); rfl; (first | (focus (simp [Value.oneCell']; done)) | (simp [Value.cells, Value.oneCell'])); (first | (focus (simp; done)) | (simp [Value.cells])); intro wr1_28 hsr1_28; simp only [upd, Value.cells] at hsr1_28))
            refine rg_back (hK := hKp) ?_ (fun hskr1_28 => ?_)
            · (first | assumption | (apply Sat.drew; assumption) | (apply Sat.pick; assumption; (repeat (first | exact Pick.nil _ | with_reducible exact Pick.tail _ | with_reducible exact Out.here _ | apply Out.there | apply Pick.cons | apply Pick.drop))))
            clear hKp Kp
            have hszr1_28 := hsr1_28
            (try dsimp only [Act.put])
            refine rg_done (by kernel_rfl) ?_
            refine (by assumption : ∀ a' w', Met _ a' w' → _) _ _ ?_
            go_meet
            case rel => exact ⟨_, _, _, _, _, rfl, (by assumption : Sat w0 _ _).pick (by (repeat (first | exact Pick.nil _ | exact Pick.tail _ | exact Out.here _ | apply Out.there | apply Pick.cons | apply Pick.drop)))⟩
        · ((with_reducible apply st_alloc); assumption; intro b3 w3 hs3; simp only [Value.cells] at hs3)
          refine rg_back (hK := hKp) ?_ (fun hsk3 => ?_)
          · (first | assumption | (apply Sat.drew; assumption) | (apply Sat.pick; assumption; (repeat (first | exact Pick.nil _ | with_reducible exact Pick.tail _ | with_reducible exact Out.here _ | apply Out.there | apply Pick.cons | apply Pick.drop))))
          clear hKp Kp
          have hsz3 := hs3
          (try simp only [Act.put, aP, aZ, aS])
          refine rg_one (i := 22) (by kernel_rfl) rfl rfl (fun Kp hKp => ?_)
          ((with_reducible apply st_buildSlice); assumption; rfl; (go_simp; rfl); (simp [Value.cells]); omega; intro b27 w27 hs27)
          refine rg_back (hK := hKp) ?_ (fun hsk27 => ?_)
          · (first | assumption | (apply Sat.drew; assumption) | (apply Sat.pick; assumption; (repeat (first | exact Pick.nil _ | with_reducible exact Pick.tail _ | with_reducible exact Out.here _ | apply Out.there | apply Pick.cons | apply Pick.drop))))
          clear hKp Kp
          have hsz27 := hs27
          (try simp only [Act.put, aP, aZ, aS])
          refine rg_one (i := 25) (by kernel_rfl) rfl rfl (fun Kp hKp => ?_)
          ((with_reducible apply st_append); go_must (assumption; rfl; rfl; (repeat (first | with_reducible exact Out.here _ | apply Out.there)); (repeat (first | with_reducible assumption | with_reducible exact Rd.own | with_reducible exact Rd.nil | with_reducible apply Rd.cons)); (first | exact B8_one _ | exact I8_one _ | (simp [Value.oneCell'])); (first | omega | (simp only [maxLen]; omega)); omega; intro A30 c30 w30 hs30 hc30; (try ((refine hs30.own_elim ?_ ?_); omega; rintro g30 rfl)); try simp only [Nat.zero_add, List.nil_append] at hs30 hc30))
          refine rg_back (hK := hKp) ?_ (fun hsk30 => ?_)
          · (first | assumption | (apply Sat.drew; assumption) | (apply Sat.pick; assumption; (repeat (first | exact Pick.nil _ | with_reducible exact Pick.tail _ | with_reducible exact Out.here _ | apply Out.there | apply Pick.cons | apply Pick.drop))))
          clear hKp Kp
          have hsz30 := hs30
          (try simp only [Act.put, aP, aZ, aS])
          refine rg_take (i := 26) (v := ?_) rfl (by kernel_rfl) (by kernel_rfl) (by kernel_rfl) (fun _ _ _ h => h) rfl (by assumption) ?_ ?_
          rotate_left
          · intro w hSw; (go_simp; first | done | with_reducible rfl | rfl | omega | assumption | (simp; omega))
          (try simp only [Act.put, aP, aZ, aS])
          refine rg_one (i := 28) (by kernel_rfl) rfl rfl (fun Kp hKp => ?_)
          (first | ((with_reducible apply st_storeAll); assumption; rfl; (go_simp; rfl); (repeat (first | with_reducible exact Out.here _ | apply Out.there)); rfl; (focus (first | (simp [Value.oneCell']; done) | (simp [Value.cells, Value.oneCell']; done))); rfl; intro wr1_28 hsr1_28; simp only [Value.cells] at hsr1_28) | ((with_reducible apply st_store); assumption; rfl; (go_simp; rfl); (repeat (first | with_reducible exact Out.here _ | apply Out.there)); rfl; (first | (focus (simp [Value.oneCell']; done)) | (simp [Value.cells, Value.oneCell'])); (first | (focus (simp; done)) | (simp [Value.cells])); intro wr1_28 hsr1_28; simp only [upd, Value.cells] at hsr1_28))
          refine rg_back (hK := hKp) ?_ (fun hskr1_28 => ?_)
          · (first | assumption | (apply Sat.drew; assumption) | (apply Sat.pick; assumption; (repeat (first | exact Pick.nil _ | with_reducible exact Pick.tail _ | with_reducible exact Out.here _ | apply Out.there | apply Pick.cons | apply Pick.drop))))
          clear hKp Kp
          have hszr1_28 := hsr1_28
          (try dsimp only [Act.put])
          refine rg_done (by kernel_rfl) ?_
          refine (by assumption : ∀ a' w', Met _ a' w' → _) _ _ ?_
          go_meet
          case rel => exact ⟨_, _, _, _, _, rfl, (by assumption : Sat w0 _ _).pick (by (repeat (first | exact Pick.nil _ | exact Pick.tail _ | exact Out.here _ | apply Out.there | apply Pick.cons | apply Pick.drop)))⟩
      · ((with_reducible apply st_buildSlice); assumption; rfl; (go_simp; rfl); (simp [Value.cells]); omega; intro b27 w27 hs27)
        refine rg_back (hK := hKp) ?_ (fun hsk27 => ?_)
        · (first | assumption | (apply Sat.drew; assumption) | (apply Sat.pick; assumption; (repeat (first | exact Pick.nil _ | with_reducible exact Pick.tail _ | with_reducible exact Out.here _ | apply Out.there | apply Pick.cons | apply Pick.drop))))
        clear hKp Kp
        have hsz27 := hs27
        (try simp only [Act.put, aP, aZ, aS])
        refine rg_two (i := 21) (j := 27) (by kernel_rfl) rfl rfl rfl rfl (fun Kp hKp => ?_) (fun Kp hKp => ?_)
        · ((with_reducible apply st_append); go_must (assumption; rfl; rfl; (repeat (first | with_reducible exact Out.here _ | apply Out.there)); (repeat (first | with_reducible assumption | with_reducible exact Rd.own | with_reducible exact Rd.nil | with_reducible apply Rd.cons)); (first | exact B8_one _ | exact I8_one _ | (simp [Value.oneCell'])); (first | omega | (simp only [maxLen]; omega)); omega; intro A26 c26 w26 hs26 hc26; (try ((refine hs26.own_elim ?_ ?_); omega; rintro g26 rfl)); try simp only [Nat.zero_add, List.nil_append] at hs26 hc26))
          refine rg_back (hK := hKp) ?_ (fun hsk26 => ?_)
          · (first | assumption | (apply Sat.drew; assumption) | (apply Sat.pick; assumption; (repeat (first | exact Pick.nil _ | with_reducible exact Pick.tail _ | with_reducible exact Out.here _ | apply Out.there | apply Pick.cons | apply Pick.drop))))
          clear hKp Kp
          have hsz26 := hs26
          (try simp only [Act.put, aP, aZ, aS])
          refine rg_two (i := 25) (j := 27) (by kernel_rfl) rfl rfl rfl rfl (fun Kp hKp => ?_) (fun Kp hKp => ?_)
          · ((with_reducible apply st_append); go_must (assumption; rfl; rfl; (repeat (first | with_reducible exact Out.here _ | apply Out.there)); (repeat (first | with_reducible assumption | with_reducible exact Rd.own | with_reducible exact Rd.nil | with_reducible apply Rd.cons)); (first | exact B8_one _ | exact I8_one _ | (simp [Value.oneCell'])); (first | omega | (simp only [maxLen]; omega)); omega; intro A30 c30 w30 hs30 hc30; (try ((refine hs30.own_elim ?_ ?_); omega; rintro g30 rfl)); try simp only [Nat.zero_add, List.nil_append] at hs30 hc30))
            refine rg_back (hK := hKp) ?_ (fun hsk30 => ?_)
            · (first | assumption | (apply Sat.drew; assumption) | (apply Sat.pick; assumption; (repeat (first | exact Pick.nil _ | with_reducible exact Pick.tail _ | with_reducible exact Out.here _ | apply Out.there | apply Pick.cons | apply Pick.drop))))
            clear hKp Kp
            have hsz30 := hs30
            (try simp only [Act.put, aP, aZ, aS])
            refine rg_take (i := 26) (v := ?_) rfl (by kernel_rfl) (by kernel_rfl) (by kernel_rfl) (fun _ _ _ h => h) rfl (by assumption) ?_ ?_
            rotate_left
            · intro w hSw; (go_simp; first | done | with_reducible rfl | rfl | omega | assumption | (simp; omega))
            (try simp only [Act.put, aP, aZ, aS])
            refine rg_one (i := 27) (by kernel_rfl) rfl rfl (fun Kp hKp => ?_)
            ((with_reducible apply st_alloc); assumption; intro b3 w3 hs3; simp only [Value.cells] at hs3)
            refine rg_back (hK := hKp) ?_ (fun hsk3 => ?_)
            · (first | assumption | (apply Sat.drew; assumption) | (apply Sat.pick; assumption; (repeat (first | exact Pick.nil _ | with_reducible exact Pick.tail _ | with_reducible exact Out.here _ | apply Out.there | apply Pick.cons | apply Pick.drop))))
            clear hKp Kp
            have hsz3 := hs3
            (try simp only [Act.put, aP, aZ, aS])
            refine rg_one (i := 28) (by kernel_rfl) rfl rfl (fun Kp hKp => ?_)
            (first | ((with_reducible apply st_storeAll); assumption; rfl; (go_simp; rfl); (repeat (first | with_reducible exact Out.here _ | apply Out.there)); rfl; (focus (first | (simp [Value.oneCell']; done) | (simp [Value.cells, Value.oneCell']; done))); rfl; intro wr1_28 hsr1_28; simp only [Value.cells] at hsr1_28) | ((with_reducible apply st_store); assumption; rfl; (go_simp; rfl); (repeat (first | with_reducible exact Out.here _ | apply Out.there)); rfl; (first | (focus (simp [Value.oneCell']; done)) | (simp [Value.cells, Value.oneCell'])); (first | (focus (simp; done)) | (simp [Value.cells])); intro wr1_28 hsr1_28; simp only [upd, Value.cells] at hsr1_28))
            refine rg_back (hK := hKp) ?_ (fun hskr1_28 => ?_)
            · (first | assumption | (apply Sat.drew; assumption) | (apply Sat.pick; assumption; (repeat (first | exact Pick.nil _ | with_reducible exact Pick.tail _ | with_reducible exact Out.here _ | apply Out.there | apply Pick.cons | apply Pick.drop))))
            clear hKp Kp
            have hszr1_28 := hsr1_28
            (try dsimp only [Act.put])
            refine rg_done (by kernel_rfl) ?_
            refine (by assumption : ∀ a' w', Met _ a' w' → _) _ _ ?_
            go_meet
            case rel => exact ⟨_, _, _, _, _, rfl, (by assumption : Sat w0 _ _).pick (by (repeat (first | exact Pick.nil _ | exact Pick.tail _ | exact Out.here _ | apply Out.there | apply Pick.cons | apply Pick.drop)))⟩
          · ((with_reducible apply st_alloc); assumption; intro b3 w3 hs3; simp only [Value.cells] at hs3)
            refine rg_back (hK := hKp) ?_ (fun hsk3 => ?_)
            · (first | assumption | (apply Sat.drew; assumption) | (apply Sat.pick; assumption; (repeat (first | exact Pick.nil _ | with_reducible exact Pick.tail _ | with_reducible exact Out.here _ | apply Out.there | apply Pick.cons | apply Pick.drop))))
            clear hKp Kp
            have hsz3 := hs3
            (try simp only [Act.put, aP, aZ, aS])
            refine rg_one (i := 25) (by kernel_rfl) rfl rfl (fun Kp hKp => ?_)
            ((with_reducible apply st_append); go_must (assumption; rfl; rfl; (repeat (first | with_reducible exact Out.here _ | apply Out.there)); (repeat (first | with_reducible assumption | with_reducible exact Rd.own | with_reducible exact Rd.nil | with_reducible apply Rd.cons)); (first | exact B8_one _ | exact I8_one _ | (simp [Value.oneCell'])); (first | omega | (simp only [maxLen]; omega)); omega; intro A30 c30 w30 hs30 hc30; (try ((refine hs30.own_elim ?_ ?_); omega; rintro g30 rfl)); try simp only [Nat.zero_add, List.nil_append] at hs30 hc30))
            refine rg_back (hK := hKp) ?_ (fun hsk30 => ?_)
            · (first | assumption | (apply Sat.drew; assumption) | (apply Sat.pick; assumption; (repeat (first | exact Pick.nil _ | with_reducible exact Pick.tail _ | with_reducible exact Out.here _ | apply Out.there | apply Pick.cons | apply Pick.drop))))
            clear hKp Kp
            have hsz30 := hs30
            (try simp only [Act.put, aP, aZ, aS])
            refine rg_take (i := 26) (v := ?_) rfl (by kernel_rfl) (by kernel_rfl) (by kernel_rfl) (fun _ _ _ h => h) rfl (by assumption) ?_ ?_
            rotate_left
            · intro w hSw; (go_simp; first | done | with_reducible rfl | rfl | omega | assumption | (simp; omega))
            (try simp only [Act.put, aP, aZ, aS])
            refine rg_one (i := 28) (by kernel_rfl) rfl rfl (fun Kp hKp => ?_)
            (first | ((with_reducible apply st_storeAll); assumption; rfl; (go_simp; rfl); (repeat (first | with_reducible exact Out.here _ | apply Out.there)); rfl; (focus (first | (simp [Value.oneCell']; done) | (simp [Value.cells, Value.oneCell']; done))); rfl; intro wr1_28 hsr1_28; simp only [Value.cells] at hsr1_28) | ((with_reducible apply st_store); assumption; rfl; (go_simp; rfl); (repeat (first | with_reducible exact Out.here _ | apply Out.there)); rfl; (first | (focus (simp [Value.oneCell']; done)) | (simp [Value.cells, Value.oneCell'])); (first | (focus (simp; done)) | (simp [Value.cells])); intro wr1_28 hsr1_28; simp only [upd, Value.cells] at hsr1_28))
            refine rg_back (hK := hKp) ?_ (fun hskr1_28 => ?_)
            · (first | assumption | (apply Sat.drew; assumption) | (apply Sat.pick; assumption; (repeat (first | exact Pick.nil _ | with_reducible exact Pick.tail _ | with_reducible exact Out.here _ | apply Out.there | apply Pick.cons | apply Pick.drop))))
            clear hKp Kp
            have hszr1_28 := hsr1_28
            (try dsimp only [Act.put])
            refine rg_done (by kernel_rfl) ?_
            refine (by assumption : ∀ a' w', Met _ a' w' → _) _ _ ?_
            go_meet
            case rel => exact ⟨_, _, _, _, _, rfl, (by assumption : Sat w0 _ _).pick (by (repeat (first | exact Pick.nil _ | exact Pick.tail _ | exact Out.here _ | apply Out.there | apply Pick.cons | apply Pick.drop)))⟩
        · ((with_reducible apply st_alloc); assumption; intro b3 w3 hs3; simp only [Value.cells] at hs3)
          refine rg_back (hK := hKp) ?_ (fun hsk3 => ?_)
          · (first | assumption | (apply Sat.drew; assumption) | (apply Sat.pick; assumption; (repeat (first | exact Pick.nil _ | with_reducible exact Pick.tail _ | with_reducible exact Out.here _ | apply Out.there | apply Pick.cons | apply Pick.drop))))
          clear hKp Kp
          have hsz3 := hs3
          (try simp only [Act.put, aP, aZ, aS])
          refine rg_one (i := 21) (by kernel_rfl) rfl rfl (fun Kp hKp => ?_)
          ((with_reducible apply st_append); go_must (assumption; rfl; rfl; (repeat (first | with_reducible exact Out.here _ | apply Out.there)); (repeat (first | with_reducible assumption | with_reducible exact Rd.own | with_reducible exact Rd.nil | with_reducible apply Rd.cons)); (first | exact B8_one _ | exact I8_one _ | (simp [Value.oneCell'])); (first | omega | (simp only [maxLen]; omega)); omega; intro A26 c26 w26 hs26 hc26; (try ((refine hs26.own_elim ?_ ?_); omega; rintro g26 rfl)); try simp only [Nat.zero_add, List.nil_append] at hs26 hc26))
          refine rg_back (hK := hKp) ?_ (fun hsk26 => ?_)
          · (first | assumption | (apply Sat.drew; assumption) | (apply Sat.pick; assumption; (repeat (first | exact Pick.nil _ | with_reducible exact Pick.tail _ | with_reducible exact Out.here _ | apply Out.there | apply Pick.cons | apply Pick.drop))))
          clear hKp Kp
          have hsz26 := hs26
          (try simp only [Act.put, aP, aZ, aS])
          refine rg_one (i := 25) (by kernel_rfl) rfl rfl (fun Kp hKp => ?_)
          ((with_reducible apply st_append); go_must (assumption; rfl; rfl; (repeat (first | with_reducible exact Out.here _ | apply Out.there)); (repeat (first | with_reducible assumption | with_reducible exact Rd.own | with_reducible exact Rd.nil | with_reducible apply Rd.cons)); (first | exact B8_one _ | exact I8_one _ | (simp [Value.oneCell'])); (first | omega | (simp only [maxLen]; omega)); omega; intro A30 c30 w30 hs30 hc30; (try ((refine hs30.own_elim ?_ ?_); omega; rintro g30 rfl)); try simp only [Nat.zero_add, List.nil_append] at hs30 hc30))
          refine rg_back (hK := hKp) ?_ (fun hsk30 => ?_)
          · (first | assumption | (apply Sat.drew; assumption) | (apply Sat.pick; assumption; (repeat (first | exact Pick.nil _ | with_reducible exact Pick.tail _ | with_reducible exact Out.here _ | apply Out.there | apply Pick.cons | apply Pick.drop))))
          clear hKp Kp
          have hsz30 := hs30
          (try simp only [Act.put, aP, aZ, aS])
          refine rg_take (i := 26) (v := ?_) rfl (by kernel_rfl) (by kernel_rfl) (by kernel_rfl) (fun _ _ _ h => h) rfl (by assumption) ?_ ?_
          rotate_left
          · intro w hSw; (go_simp; first | done | with_reducible rfl | rfl | omega | assumption | (simp; omega))
          (try simp only [Act.put, aP, aZ, aS])
          refine rg_one (i := 28) (by kernel_rfl) rfl rfl (fun Kp hKp => ?_)
          (first | ((with_reducible apply st_storeAll); assumption; rfl; (go_simp; rfl); (repeat (first | with_reducible exact Out.here _ | apply Out.there)); rfl; (focus (first | (simp [Value.oneCell']; done) | (simp [Value.cells, Value.oneCell']; done))); rfl; intro wr1_28 hsr1_28; simp only [Value.cells] at hsr1_28) | ((with_reducible apply st_store); assumption; rfl; (go_simp; rfl); (repeat (first | with_reducible exact Out.here _ | apply Out.there)); rfl; (first | (focus (simp [Value.oneCell']; done)) | (simp [Value.cells, Value.oneCell'])); (first | (focus (simp; done)) | (simp [Value.cells])); intro wr1_28 hsr1_28; simp only [upd, Value.cells] at hsr1_28))
          refine rg_back (hK := hKp) ?_ (fun hskr1_28 => ?_)
          · (first | assumption | (apply Sat.drew; assumption) | (apply Sat.pick; assumption; (repeat (first | exact Pick.nil _ | with_reducible exact Pick.tail _ | with_reducible exact Out.here _ | apply Out.there | apply Pick.cons | apply Pick.drop))))
          clear hKp Kp
          have hszr1_28 := hsr1_28
          (try dsimp only [Act.put])
          refine rg_done (by kernel_rfl) ?_
          refine (by assumption : ∀ a' w', Met _ a' w' → _) _ _ ?_
          go_meet
          case rel => exact ⟨_, _, _, _, _, rfl, (by assumption : Sat w0 _ _).pick (by (repeat (first | exact Pick.nil _ | exact Pick.tail _ | exact Out.here _ | apply Out.there | apply Pick.cons | apply Pick.drop)))⟩
      · ((with_reducible apply st_alloc); assumption; intro b3 w3 hs3; simp only [Value.cells] at hs3)
        refine rg_back (hK := hKp) ?_ (fun hsk3 => ?_)
        · (first | assumption | (apply Sat.drew; assumption) | (apply Sat.pick; assumption; (repeat (first | exact Pick.nil _ | with_reducible exact Pick.tail _ | with_reducible exact Out.here _ | apply Out.there | apply Pick.cons | apply Pick.drop))))
        clear hKp Kp
        have hsz3 := hs3
        (try simp only [Act.put, aP, aZ, aS])
        refine rg_two (i := 21) (j := 22) (by kernel_rfl) rfl rfl rfl rfl (fun Kp hKp => ?_) (fun Kp hKp => ?_)
        · ((with_reducible apply st_append); go_must (assumption; rfl; rfl; (repeat (first | with_reducible exact Out.here _ | apply Out.there)); (repeat (first | with_reducible assumption | with_reducible exact Rd.own | with_reducible exact Rd.nil | with_reducible apply Rd.cons)); (first | exact B8_one _ | exact I8_one _ | (simp [Value.oneCell'])); (first | omega | (simp only [maxLen]; omega)); omega; intro A26 c26 w26 hs26 hc26; (try ((refine hs26.own_elim ?_ ?_); omega; rintro g26 rfl)); try simp only [Nat.zero_add, List.nil_append] at hs26 hc26))
          refine rg_back (hK := hKp) ?_ (fun hsk26 => ?_)
          · (first | assumption | (apply Sat.drew; assumption) | (apply Sat.pick; assumption; (repeat (first | exact Pick.nil _ | with_reducible exact Pick.tail _ | with_reducible exact Out.here _ | apply Out.there | apply Pick.cons | apply Pick.drop))))
          clear hKp Kp
          have hsz26 := hs26
          (try simp only [Act.put, aP, aZ, aS])
          refine rg_one (i := 22) (by kernel_rfl) rfl rfl (fun Kp hKp => ?_)
          ((with_reducible apply st_buildSlice); assumption; rfl; (go_simp; rfl); (simp [Value.cells]); omega; intro b27 w27 hs27)
          refine rg_back (hK := hKp) ?_ (fun hsk27 => ?_)
          · (first | assumption | (apply Sat.drew; assumption) | (apply Sat.pick; assumption; (repeat (first | exact Pick.nil _ | with_reducible exact Pick.tail _ | with_reducible exact Out.here _ | apply Out.there | apply Pick.cons | apply Pick.drop))))
          clear hKp Kp
          have hsz27 := hs27
          (try simp only [Act.put, aP, aZ, aS])
          refine rg_one (i := 25) (by kernel_rfl) rfl rfl (fun Kp hKp => ?_)
          ((with_reducible apply st_append); go_must (assumption; rfl; rfl; (repeat (first | with_reducible exact Out.here _ | apply Out.there)); (repeat (first | with_reducible assumption | with_reducible exact Rd.own | with_reducible exact Rd.nil | with_reducible apply Rd.cons)); (first | exact B8_one _ | exact I8_one _ | (simp [Value.oneCell'])); (first | omega | (simp only [maxLen]; omega)); omega; intro A30 c30 w30 hs30 hc30; (try ((refine hs30.own_elim ?_ ?_); omega; rintro g30 rfl)); try simp only [Nat.zero_add, List.nil_append] at hs30 hc30))
          refine rg_back (hK := hKp) ?_ (fun hsk30 => ?_)
          · (first | assumption | (apply Sat.drew; assumption) | (apply Sat.pick; assumption; (repeat (first | exact Pick.nil _ | with_reducible exact Pick.tail _ | with_reducible exact Out.here _ | apply Out.there | apply Pick.cons | apply Pick.drop))))
          clear hKp Kp
          have hsz30 := hs30
          (try simp only [Act.put, aP, aZ, aS])
          refine rg_take (i := 26) (v := ?_) rfl (by kernel_rfl) (by kernel_rfl) (by kernel_rfl) (fun _ _ _ h => h) rfl (by assumption) ?_ ?_
          rotate_left
          · intro w hSw; (go_simp; first | done | with_reducible rfl | rfl | omega | assumption | (simp; omega))
          (try simp only [Act.put, aP, aZ, aS])
          refine rg_one (i := 28) (by kernel_rfl) rfl rfl (fun Kp hKp => ?_)
          (first | ((with_reducible apply st_storeAll); assumption; rfl; (go_simp; rfl); (repeat (first | with_reducible exact Out.here _ | apply Out.there)); rfl; (focus (first | (simp [Value.oneCell']; done) | (simp [Value.cells, Value.oneCell']; done))); rfl; intro wr1_28 hsr1_28; simp only [Value.cells] at hsr1_28) | ((with_reducible apply st_store); assumption; rfl; (go_simp; rfl); (repeat (first | with_reducible exact Out.here _ | apply Out.there)); rfl; (first | (focus (simp [Value.oneCell']; done)) | (simp [Value.cells, Value.oneCell'])); (first | (focus (simp; done)) | (simp [Value.cells])); intro wr1_28 hsr1_28; simp only [upd, Value.cells] at hsr1_28))
          refine rg_back (hK := hKp) ?_ (fun hskr1_28 => ?_)
          · (first | assumption | (apply Sat.drew; assumption) | (apply Sat.pick; assumption; (repeat (first | exact Pick.nil _ | with_reducible exact Pick.tail _ | with_reducible exact Out.here _ | apply Out.there | apply Pick.cons | apply Pick.drop))))
          clear hKp Kp
          have hszr1_28 := hsr1_28
          (try dsimp only [Act.put])
          refine rg_done (by kernel_rfl) ?_
          refine (by assumption : ∀ a' w', Met _ a' w' → _) _ _ ?_
          go_meet
          case rel => exact ⟨_, _, _, _, _, rfl, (by assumption : Sat w0 _ _).pick (by (repeat (first | exact Pick.nil _ | exact Pick.tail _ | exact Out.here _ | apply Out.there | apply Pick.cons | apply Pick.drop)))⟩
        · ((with_reducible apply st_buildSlice); assumption; rfl; (go_simp; rfl); (simp [Value.cells]); omega; intro b27 w27 hs27)
          refine rg_back (hK := hKp) ?_ (fun hsk27 => ?_)
          · (first | assumption | (apply Sat.drew; assumption) | (apply Sat.pick; assumption; (repeat (first | exact Pick.nil _ | with_reducible exact Pick.tail _ | with_reducible exact Out.here _ | apply Out.there | apply Pick.cons | apply Pick.drop))))
          clear hKp Kp
          have hsz27 := hs27
          (try simp only [Act.put, aP, aZ, aS])
          refine rg_one (i := 21) (by kernel_rfl) rfl rfl (fun Kp hKp => ?_)
          ((with_reducible apply st_append); go_must (assumption; rfl; rfl; (repeat (first | with_reducible exact Out.here _ | apply Out.there)); (repeat (first | with_reducible assumption | with_reducible exact Rd.own | with_reducible exact Rd.nil | with_reducible apply Rd.cons)); (first | exact B8_one _ | exact I8_one _ | (simp [Value.oneCell'])); (first | omega | (simp only [maxLen]; omega)); omega; intro A26 c26 w26 hs26 hc26; (try ((refine hs26.own_elim ?_ ?_); omega; rintro g26 rfl)); try simp only [Nat.zero_add, List.nil_append] at hs26 hc26))
          refine rg_back (hK := hKp) ?_ (fun hsk26 => ?_)
          · (first | assumption | (apply Sat.drew; assumption) | (apply Sat.pick; assumption; (repeat (first | exact Pick.nil _ | with_reducible exact Pick.tail _ | with_reducible exact Out.here _ | apply Out.there | apply Pick.cons | apply Pick.drop))))
          clear hKp Kp
          have hsz26 := hs26
          (try simp only [Act.put, aP, aZ, aS])
          refine rg_one (i := 25) (by kernel_rfl) rfl rfl (fun Kp hKp => ?_)
          ((with_reducible apply st_append); go_must (assumption; rfl; rfl; (repeat (first | with_reducible exact Out.here _ | apply Out.there)); (repeat (first | with_reducible assumption | with_reducible exact Rd.own | with_reducible exact Rd.nil | with_reducible apply Rd.cons)); (first | exact B8_one _ | exact I8_one _ | (simp [Value.oneCell'])); (first | omega | (simp only [maxLen]; omega)); omega; intro A30 c30 w30 hs30 hc30; (try ((refine hs30.own_elim ?_ ?_); omega; rintro g30 rfl)); try simp only [Nat.zero_add, List.nil_append] at hs30 hc30))
          refine rg_back (hK := hKp) ?_ (fun hsk30 => ?_)
          · (first | assumption | (apply Sat.drew; assumption) | (apply Sat.pick; assumption; (repeat (first | exact Pick.nil _ | with_reducible exact Pick.tail _ | with_reducible exact Out.here _ | apply Out.there | apply Pick.cons | apply Pick.drop))))
          clear hKp Kp
          have hsz30 := hs30
          (try simp only [Act.put, aP, aZ, aS])
          refine rg_take (i := 26) (v := ?_) rfl (by kernel_rfl) (by kernel_rfl) (by kernel_rfl) (fun _ _ _ h => h) rfl (by assumption) ?_ ?_
          rotate_left
          · intro w hSw; (go_simp; first | done | with_reducible rfl | rfl | omega | assumption | (simp; omega))
          (try simp only [Act.put, aP, aZ, aS])
          refine rg_one (i := 28) (by kernel_rfl) rfl rfl (fun Kp hKp => ?_)
          (first | ((with_reducible apply st_storeAll); assumption; rfl; (go_simp; rfl); (repeat (first | with_reducible exact Out.here _ | apply Out.there)); rfl; (focus (first | (simp [Value.oneCell']; done) | (simp [Value.cells, Value.oneCell']; done))); rfl; intro wr1_28 hsr1_28; simp only [Value.cells] at hsr1_28) | ((with_reducible apply st_store); assumption; rfl; (go_simp; rfl); (repeat (first | with_reducible exact Out.here _ | apply Out.there)); rfl; (first | (focus (simp [Value.oneCell']; done)) | (simp [Value.cells, Value.oneCell'])); (first | (focus (simp; done)) | (simp [Value.cells])); intro wr1_28 hsr1_28; simp only [upd, Value.cells] at hsr1_28))
          refine rg_back (hK := hKp) ?_ (fun hskr1_28 => ?_)
          · (first | assumption | (apply Sat.drew; assumption) | (apply Sat.pick; assumption; (repeat (first | exact Pick.nil _ | with_reducible exact Pick.tail _ | with_reducible exact Out.here _ | apply Out.there | apply Pick.cons | apply Pick.drop))))
          clear hKp Kp
          have hszr1_28 := hsr1_28
          (try dsimp only [Act.put])
          refine rg_done (by kernel_rfl) ?_
          refine (by assumption : ∀ a' w', Met _ a' w' → _) _ _ ?_
          go_meet
          case rel => exact ⟨_, _, _, _, _, rfl, (by assumption : Sat w0 _ _).pick (by (repeat (first | exact Pick.nil _ | exact Pick.tail _ | exact Out.here _ | apply Out.there | apply Pick.cons | apply Pick.drop)))⟩
    · ((with_reducible apply st_buildSlice); assumption; rfl; (go_simp; rfl); (simp [Value.cells]); omega; intro b27 w27 hs27)
      refine rg_back (hK := hKp) ?_ (fun hsk27 => ?_)
      · (first | assumption | (apply Sat.drew; assumption) | (apply Sat.pick; assumption; (repeat (first | exact Pick.nil _ | with_reducible exact Pick.tail _ | with_reducible exact Out.here _ | apply Out.there | apply Pick.cons | apply Pick.drop))))
      clear hKp Kp
      have hsz27 := hs27
      (try simp only [Act.put, aP, aZ, aS])
      refine rg_two (i := 18) (j := 27) (by kernel_rfl) rfl rfl rfl rfl (fun Kp hKp => ?_) (fun Kp hKp => ?_)
      · ((with_reducible apply st_buildSlice); assumption; rfl; (go_simp; rfl); (simp [Value.cells]); omega; intro b23 w23 hs23)
        refine rg_back (hK := hKp) ?_ (fun hsk23 => ?_)
        · (first | assumption | (apply Sat.drew; assumption) | (apply Sat.pick; assumption; (repeat (first | exact Pick.nil _ | with_reducible exact Pick.tail _ | with_reducible exact Out.here _ | apply Out.there | apply Pick.cons | apply Pick.drop))))
        clear hKp Kp
        have hsz23 := hs23
        (try simp only [Act.put, aP, aZ, aS])
        refine rg_two (i := 21) (j := 27) (by kernel_rfl) rfl rfl rfl rfl (fun Kp hKp => ?_) (fun Kp hKp => ?_)
        · ((with_reducible apply st_append); go_must (assumption; rfl; rfl; (repeat (first | with_reducible exact Out.here _ | apply Out.there)); (repeat (first | with_reducible assumption | with_reducible exact Rd.own | with_reducible exact Rd.nil | with_reducible apply Rd.cons)); (first | exact B8_one _ | exact I8_one _ | (simp [Value.oneCell'])); (first | omega | (simp only [maxLen]; omega)); omega; intro A26 c26 w26 hs26 hc26; (try ((refine hs26.own_elim ?_ ?_); omega; rintro g26 rfl)); try simp only [Nat.zero_add, List.nil_append] at hs26 hc26))
          refine rg_back (hK := hKp) ?_ (fun hsk26 => ?_)
          · (first | assumption | (apply Sat.drew; assumption) | (apply Sat.pick; assumption; (repeat (first | exact Pick.nil _ | with_reducible exact Pick.tail _ | with_reducible exact Out.here _ | apply Out.there | apply Pick.cons | apply Pick.drop))))
          clear hKp Kp
          have hsz26 := hs26
          (try simp only [Act.put, aP, aZ, aS])
          refine rg_two (i := 25) (j := 27) (by kernel_rfl) rfl rfl rfl rfl (fun Kp hKp => ?_) (fun Kp hKp => ?_)
          · ((with_reducible apply st_append); go_must (assumption; rfl; rfl; (repeat (first | with_reducible exact Out.here _ | apply Out.there)); (repeat (first | with_reducible assumption | with_reducible exact Rd.own | with_reducible exact Rd.nil | with_reducible apply Rd.cons)); (first | exact B8_one _ | exact I8_one _ | (simp [Value.oneCell'])); (first | omega | (simp only [maxLen]; omega)); omega; intro A30 c30 w30 hs30 hc30; (try ((refine hs30.own_elim ?_ ?_); omega; rintro g30 rfl)); try simp only [Nat.zero_add, List.nil_append] at hs30 hc30))
            refine rg_back (hK := hKp) ?_ (fun hsk30 => ?_)
            · (first | assumption | (apply Sat.drew; assumption) | (apply Sat.pick; assumption; (repeat (first | exact Pick.nil _ | with_reducible exact Pick.tail _ | with_reducible exact Out.here _ | apply Out.there | apply Pick.cons | apply Pick.drop))))
            clear hKp Kp
            have hsz30 := hs30
            (try simp only [Act.put, aP, aZ, aS])
            refine rg_take (i := 26) (v := ?_) rfl (by kernel_rfl) (by kernel_rfl) (by kernel_rfl) (fun _ _ _ h => h) rfl (by assumption) ?_ ?_
            rotate_left
            · intro w hSw; (go_simp; first | done | with_reducible rfl | rfl | omega | assumption | (simp; omega))
            (try simp only [Act.put, aP, aZ, aS])
            refine rg_one (i := 27) (by kernel_rfl) rfl rfl (fun Kp hKp => ?_)
            ((with_reducible apply st_alloc); assumption; intro b3 w3 hs3; simp only [Value.cells] at hs3)
            refine rg_back (hK := hKp) ?_ (fun hsk3 => ?_)
            · (first | assumption | (apply Sat.drew; assumption) | (apply Sat.pick; assumption; (repeat (first | exact Pick.nil _ | with_reducible exact Pick.tail _ | with_reducible exact Out.here _ | apply Out.there | apply Pick.cons | apply Pick.drop))))
            clear hKp Kp
            have hsz3 := hs3
            (try simp only [Act.put, aP, aZ, aS])
            refine rg_one (i := 28) (by kernel_rfl) rfl rfl (fun Kp hKp => ?_)
            (first | ((with_reducible apply st_storeAll); assumption; rfl; (go_simp; rfl); (repeat (first | with_reducible exact Out.here _ | apply Out.there)); rfl; (focus (first | (simp [Value.oneCell']; done) | (simp [Value.cells, Value.oneCell']; done))); rfl; intro wr1_28 hsr1_28; simp only [Value.cells] at hsr1_28) | ((with_reducible apply st_store); assumption; rfl; (go_simp; rfl); (repeat (first | with_reducible exact Out.here _ | apply Out.there)); rfl; (first | (focus (simp [Value.oneCell']; done)) | (simp [Value.cells, Value.oneCell'])); (first | (focus (simp; done)) | (simp [Value.cells])); intro wr1_28 hsr1_28; simp only [upd, Value.cells] at hsr1_28))
            refine rg_back (hK := hKp) ?_ (fun hskr1_28 => ?_)
            · (first | assumption | (apply Sat.drew; assumption) | (apply Sat.pick; assumption; (repeat (first | exact Pick.nil _ | with_reducible exact Pick.tail _ | with_reducible exact Out.here _ | apply Out.there | apply Pick.cons | apply Pick.drop))))
            clear hKp Kp
            have hszr1_28 := hsr1_28
            (try dsimp only [Act.put])
            refine rg_done (by kernel_rfl) ?_
            refine (by assumption : ∀ a' w', Met _ a' w' → _) _ _ ?_
            go_meet
            case rel => exact ⟨_, _, _, _, _, rfl, (by assumption : Sat w0 _ _).pick (by (repeat (first | exact Pick.nil _ | exact Pick.tail _ | exact Out.here _ | apply Out.there | apply Pick.cons | apply Pick.drop)))⟩
          · ((with_reducible apply st_alloc); assumption; intro b3 w3 hs3; simp only [Value.cells] at hs3)
            refine rg_back (hK := hKp) ?_ (fun hsk3 => ?_)
            · (first | assumption | (apply Sat.drew; assumption) | (apply Sat.pick; assumption; (repeat (first | exact Pick.nil _ | with_reducible exact Pick.tail _ | with_reducible exact Out.here _ | apply Out.there | apply Pick.cons | apply Pick.drop))))
            clear hKp Kp
            have hsz3 := hs3
            (try simp only [Act.put, aP, aZ, aS])
            refine rg_one (i := 25) (by kernel_rfl) rfl rfl (fun Kp hKp => ?_)
            ((with_reducible apply st_append); go_must (assumption; rfl; rfl; (repeat (first | with_reducible exact Out.here _ | apply Out.there)); (repeat (first | with_reducible assumption | with_reducible exact Rd.own | with_reducible exact Rd.nil | with_reducible apply Rd.cons)); (first | exact B8_one _ | exact I8_one _ | (simp [Value.oneCell'])); (first | omega | (simp only [maxLen]; omega)); omega; intro A30 c30 w30 hs30 hc30; (try ((refine hs30.own_elim ?_ ?_); omega; rintro g30 rfl)); try simp only [Nat.zero_add, List.nil_append] at hs30 hc30))
            refine rg_back (hK := hKp) ?_ (fun hsk30 => ?_)
            · (first | assumption | (apply Sat.drew; assumption) | (apply Sat.pick; assumption; (repeat (first | exact Pick.nil _ | with_reducible exact Pick.tail _ | with_reducible exact Out.here _ | apply Out.there | apply Pick.cons | apply Pick.drop))))
            clear hKp Kp
            have hsz30 := hs30
            (try simp only [Act.put, aP, aZ, aS])
            refine rg_take (i := 26) (v := ?_) rfl (by kernel_rfl) (by kernel_rfl) (by kernel_rfl) (fun _ _ _ h => h) rfl (by assumption) ?_ ?_
            rotate_left
            · intro w hSw; (go_simp; first | done | with_reducible rfl | rfl | omega | assumption | (simp; omega))
            (try simp only [Act.put, aP, aZ, aS])
            refine rg_one (i := 28) (by kernel_rfl) rfl rfl (fun Kp hKp => ?_)
            (first | ((with_reducible apply st_storeAll); assumption; rfl; (go_simp; rfl); (repeat (first | with_reducible exact Out.here _ | apply Out.there)); rfl; (focus (first | (simp [Value.oneCell']; done) | (simp [Value.cells, Value.oneCell']; done))); rfl; intro wr1_28 hsr1_28; simp only [Value.cells] at hsr1_28) | ((with_reducible apply st_store); assumption; rfl; (go_simp; rfl); (repeat (first | with_reducible exact Out.here _ | apply Out.there)); rfl; (first | (focus (simp [Value.oneCell']; done)) | (simp [Value.cells, Value.oneCell'])); (first | (focus (simp; done)) | (simp [Value.cells])); intro wr1_28 hsr1_28; simp only [upd, Value.cells] at hsr1_28))
            refine rg_back (hK := hKp) ?_ (fun hskr1_28 => ?_)
            · (first | assumption | (apply Sat.drew; assumption) | (apply Sat.pick; assumption; (repeat (first | exact Pick.nil _ | with_reducible exact Pick.tail _ | with_reducible exact Out.here _ | apply Out.there | apply Pick.cons | apply Pick.drop))))
            clear hKp Kp
            have hszr1_28 := hsr1_28
            (try dsimp only [Act.put])
            refine rg_done (by kernel_rfl) ?_
            refine (by assumption : ∀ a' w', Met _ a' w' → _) _ _ ?_
            go_meet
            case rel => exact ⟨_, _, _, _, _, rfl, (by assumption : Sat w0 _ _).pick (by (repeat (first | exact Pick.nil _ | exact Pick.tail _ | exact Out.here _ | apply Out.there | apply Pick.cons | apply Pick.drop)))⟩
        · ((with_reducible apply st_alloc); assumption; intro b3 w3 hs3; simp only [Value.cells] at hs3)
          refine rg_back (hK := hKp) ?_ (fun hsk3 => ?_)
          · (first | assumption | (apply Sat.drew; assumption) | (apply Sat.pick; assumption; (repeat (first | exact Pick.nil _ | with_reducible exact Pick.tail _ | with_reducible exact Out.here _ | apply Out.there | apply Pick.cons | apply Pick.drop))))
          clear hKp Kp
          have hsz3 := hs3
          (try simp only [Act.put, aP, aZ, aS])
          refine rg_one (i := 21) (by kernel_rfl) rfl rfl (fun Kp hKp => ?_)
          ((with_reducible apply st_append); go_must (assumption; rfl; rfl; (repeat (first | with_reducible exact Out.here _ | apply Out.there)); (repeat (first | with_reducible assumption | with_reducible exact Rd.own | with_reducible exact Rd.nil | with_reducible apply Rd.cons)); (first | exact B8_one _ | exact I8_one _ | (simp [Value.oneCell'])); (first | omega | (simp only [maxLen]; omega)); omega; intro A26 c26 w26 hs26 hc26; (try ((refine hs26.own_elim ?_ ?_); omega; rintro g26 rfl)); try simp only [Nat.zero_add, List.nil_append] at hs26 hc26))
          refine rg_back (hK := hKp) ?_ (fun hsk26 => ?_)
          · (first | assumption | (apply Sat.drew; assumption) | (apply Sat.pick; assumption; (repeat (first | exact Pick.nil _ | with_reducible exact Pick.tail _ | with_reducible exact Out.here _ | apply Out.there | apply Pick.cons | apply Pick.drop))))
          clear hKp Kp
          have hsz26 := hs26
          (try simp only [Act.put, aP, aZ, aS])
          refine rg_one (i := 25) (by kernel_rfl) rfl rfl (fun Kp hKp => ?_)
          ((with_reducible apply st_append); go_must (assumption; rfl; rfl; (repeat (first | with_reducible exact Out.here _ | apply Out.there)); (repeat (first | with_reducible assumption | with_reducible exact Rd.own | with_reducible exact Rd.nil | with_reducible apply Rd.cons)); (first | exact B8_one _ | exact I8_one _ | (simp [Value.oneCell'])); (first | omega | (simp only [maxLen]; omega)); omega; intro A30 c30 w30 hs30 hc30; (try ((refine hs30.own_elim ?_ ?_); omega; rintro g30 rfl)); try simp only [Nat.zero_add, List.nil_append] at hs30 hc30))
          refine rg_back (hK := hKp) ?_ (fun hsk30 => ?_)
          · (first | assumption | (apply Sat.drew; assumption) | (apply Sat.pick; assumption; (repeat (first | exact Pick.nil _ | with_reducible exact Pick.tail _ | with_reducible exact Out.here _ | apply Out.there | apply Pick.cons | apply Pick.drop))))
          clear hKp Kp
          have hsz30 := hs30
          (try simp only [Act.put, aP, aZ, aS])
          refine rg_take (i := 26) (v := ?_) rfl (by kernel_rfl) (by kernel_rfl) (by kernel_rfl) (fun _ _ _ h => h) rfl (by assumption) ?_ ?_
          rotate_left
          · intro w hSw; (go_simp; first | done | with_reducible rfl | rfl | omega | assumption | (simp; omega))
          (try simp only [Act.put, aP, aZ, aS])
          refine rg_one (i := 28) (by kernel_rfl) rfl rfl (fun Kp hKp => ?_)
          (first | ((with_reducible apply st_storeAll); assumption; rfl; (go_simp; rfl); (repeat (first | with_reducible exact Out.here _ | apply Out.there)); rfl; (focus (first | (simp [Value.oneCell']; done) | (simp [Value.cells, Value.oneCell']; done))); rfl; intro wr1_28 hsr1_28; simp only [Value.cells] at hsr1_28) | ((with_reducible apply st_store); assumption; rfl; (go_simp; rfl); (repeat (first | with_reducible exact Out.here _ | apply Out.there)); rfl; (first | (focus (simp [Value.oneCell']; done)) | (simp [Value.cells, Value.oneCell'])); (first | (focus (simp; done)) | (simp [Value.cells])); intro wr1_28 hsr1_28; simp only [upd, Value.cells] at hsr1_28))
          refine rg_back (hK := hKp) ?_ (fun hskr1_28 => ?_)
          · (first | assumption | (apply Sat.drew; assumption) | (apply Sat.pick; assumption; (repeat (first | exact Pick.nil _ | with_reducible exact Pick.tail _ | with_reducible exact Out.here _ | apply Out.there | apply Pick.cons | apply Pick.drop))))
          clear hKp Kp
          have hszr1_28 := hsr1_28
          (try dsimp only [Act.put])
          refine rg_done (by kernel_rfl) ?_
          refine (by assumption : ∀ a' w', Met _ a' w' → _) _ _ ?_
          go_meet
          case rel => exact ⟨_, _, _, _, _, rfl, (by assumption : Sat w0 _ _).pick (by (repeat (first | exact Pick.nil _ | exact Pick.tail _ | exact Out.here _ | apply Out.there | apply Pick.cons | apply Pick.drop)))⟩
      · ((with_reducible apply st_alloc); assumption; intro b3 w3 hs3; simp only [Value.cells] at hs3)
        refine rg_back (hK := hKp) ?_ (fun hsk3 => ?_)
        · (first | assumption | (apply Sat.drew; assumption) | (apply Sat.pick; assumption; (repeat (first | exact Pick.nil _ | with_reducible exact Pick.tail _ | with_reducible exact Out.here _ | apply Out.there | apply Pick.cons | apply Pick.drop))))
        clear hKp Kp
        have hsz3 := hs3
        (try simp only [Act.put, aP, aZ, aS])
        refine rg_one (i := 18) (by kernel_rfl) rfl rfl (fun Kp hKp => ?_)
        ((with_reducible apply st_buildSlice); assumption; rfl; (go_simp; rfl); (simp [Value.cells]); omega; intro b23 w23 hs23)
        refine rg_back (hK := hKp) ?_ (fun hsk23 => ?_)
        · (first | assumption | (apply Sat.drew; assumption) | (apply Sat.pick; assumption; (repeat (first | exact Pick.nil _ | with_reducible exact Pick.tail _ | with_reducible exact Out.here _ | apply Out.there | apply Pick.cons | apply Pick.drop))))
        clear hKp Kp
        have hsz23 := hs23
        (try simp only [Act.put, aP, aZ, aS])
        refine rg_one (i := 21) (by kernel_rfl) rfl rfl (fun Kp hKp => ?_)
        ((with_reducible apply st_append); go_must (assumption; rfl; rfl; (repeat (first | with_reducible exact Out.here _ | apply Out.there)); (repeat (first | with_reducible assumption | with_reducible exact Rd.own | with_reducible exact Rd.nil | with_reducible apply Rd.cons)); (first | exact B8_one _ | exact I8_one _ | (simp [Value.oneCell'])); (first | omega | (simp only [maxLen]; omega)); omega; intro A26 c26 w26 hs26 hc26; (try ((refine hs26.own_elim ?_ ?_); omega; rintro g26 rfl)); try simp only [Nat.zero_add, List.nil_append] at hs26 hc26))
        refine rg_back (hK := hKp) ?_ (fun hsk26 => ?_)
        · (first | assumption | (apply Sat.drew; assumption) | (apply Sat.pick; assumption; (repeat (first | exact Pick.nil _ | with_reducible exact Pick.tail _ | with_reducible exact Out.here _ | apply Out.there | apply Pick.cons | apply Pick.drop))))
        clear hKp Kp
        have hsz26 := hs26
        (try simp only [Act.put, aP, aZ, aS])
        refine rg_one (i := 25) (by kernel_rfl) rfl rfl (fun Kp hKp => ?_)
        ((with_reducible apply st_append); go_must (assumption; rfl; rfl; (repeat (first | with_reducible exact Out.here _ | apply Out.there)); (repeat (first | with_reducible assumption | with_reducible exact Rd.own | with_reducible exact Rd.nil | with_reducible apply Rd.cons)); (first | exact B8_one _ | exact I8_one _ | (simp [Value.oneCell'])); (first | omega | (simp only [maxLen]; omega)); omega; intro A30 c30 w30 hs30 hc30; (try ((refine hs30.own_elim ?_ ?_); omega; rintro g30 rfl)); try simp only [Nat.zero_add, List.nil_append] at hs30 hc30))
        refine rg_back (hK := hKp) ?_ (fun hsk30 => ?_)
        · (first | assumption | (apply Sat.drew; assumption) | (apply Sat.pick; assumption; (repeat (first | exact Pick.nil _ | with_reducible exact Pick.tail _ | with_reducible exact Out.here _ | apply Out.there | apply Pick.cons | apply Pick.drop))))
        clear hKp Kp
        have hsz30 := hs30
        (try simp only [Act.put, aP, aZ, aS])
        refine rg_take (i := 26) (v := ?_) rfl (by kernel_rfl) (by kernel_rfl) (by kernel_rfl) (fun _ _ _ h => h) rfl (by assumption) ?_ ?_
        rotate_left
        · intro w hSw; (go_simp; first | done | with_reducible rfl | rfl | omega | assumption | (simp; omega))
        (try simp only [Act.put, aP, aZ, aS])
        refine rg_one (i := 28) (by kernel_rfl) rfl rfl (fun Kp hKp => ?_)
        (first | ((with_reducible apply st_storeAll); assumption; rfl; (go_simp; rfl); (repeat (first | with_reducible exact Out.here _ | apply Out.there)); rfl; (focus (first | (simp [Value.oneCell']; done) | (simp [Value.cells, Value.oneCell']; done))); rfl; intro wr1_28 hsr1_28; simp only [Value.cells] at hsr1_28) | ((with_reducible apply st_store); assumption; rfl; (go_simp; rfl); (repeat (first | with_reducible exact Out.here _ | apply Out.there)); rfl; (first | (focus (simp [Value.oneCell']; done)) | (simp [Value.cells, Value.oneCell'])); (first | (focus (simp; done)) | (simp [Value.cells])); intro wr1_28 hsr1_28; simp only [upd, Value.cells] at hsr1_28))
        refine rg_back (hK := hKp) ?_ (fun hskr1_28 => ?_)
        · (first | assumption | (apply Sat.drew; assumption) | (apply Sat.pick; assumption; (repeat (first | exact Pick.nil _ | with_reducible exact Pick.tail _ | with_reducible exact Out.here _ | apply Out.there | apply Pick.cons | apply Pick.drop))))
        clear hKp Kp
        have hszr1_28 := hsr1_28
        (try dsimp only [Act.put])
        refine rg_done (by kernel_rfl) ?_
        refine (by assumption : ∀ a' w', Met _ a' w' → _) _ _ ?_
        go_meet
        case rel => exact ⟨_, _, _, _, _, rfl, (by assumption : Sat w0 _ _).pick (by (repeat (first | exact Pick.nil _ | exact Pick.tail _ | exact Out.here _ | apply Out.there | apply Pick.cons | apply Pick.drop)))⟩
    · ((with_reducible apply st_alloc); assumption; intro b3 w3 hs3; simp only [Value.cells] at hs3)
      refine rg_back (hK := hKp) ?_ (fun hsk3 => ?_)
      · (first | assumption | (apply Sat.drew; assumption) | (apply Sat.pick; assumption; (repeat (first | exact Pick.nil _ | with_reducible exact Pick.tail _ | with_reducible exact Out.here _ | apply Out.there | apply Pick.cons | apply Pick.drop))))
      clear hKp Kp
      have hsz3 := hs3
      (try simp only [Act.put, aP, aZ, aS])
      refine rg_two (i := 18) (j := 22) (by kernel_rfl) rfl rfl rfl rfl (fun Kp hKp => ?_) (fun Kp hKp => ?_)
      · ((with_reducible apply st_buildSlice); assumption; rfl; (go_simp; rfl); (simp [Value.cells]); omega; intro b23 w23 hs23)
        refine rg_back (hK := hKp) ?_ (fun hsk23 => ?_)
        · (first | assumption | (apply Sat.drew; assumption) | (apply Sat.pick; assumption; (repeat (first | exact Pick.nil _ | with_reducible exact Pick.tail _ | with_reducible exact Out.here _ | apply Out.there | apply Pick.cons | apply Pick.drop))))
        clear hKp Kp
        have hsz23 := hs23
        (try simp only [Act.put, aP, aZ, aS])
        refine rg_two (i := 21) (j := 22) (by kernel_rfl) rfl rfl rfl rfl (fun Kp hKp => ?_) (fun Kp hKp => ?_)
        · ((with_reducible apply st_append); go_must (assumption; rfl; rfl; (repeat (first | with_reducible exact Out.here _ | apply Out.there)); (repeat (first | with_reducible assumption | with_reducible exact Rd.own | with_reducible exact Rd.nil | with_reducible apply Rd.cons)); (first | exact B8_one _ | exact I8_one _ | (simp [Value.oneCell'])); (first | omega | (simp only [maxLen]; omega)); omega; intro A26 c26 w26 hs26 hc26; (try ((refine hs26.own_elim ?_ ?_); omega; rintro g26 rfl)); try simp only [Nat.zero_add, List.nil_append] at hs26 hc26))
          refine rg_back (hK := hKp) ?_ (fun hsk26 => ?_)
          · (first | assumption | (apply Sat.drew; assumption) | (apply Sat.pick; assumption; (repeat (first | exact Pick.nil _ | with_reducible exact Pick.tail _ | with_reducible exact Out.here _ | apply Out.there | apply Pick.cons | apply Pick.drop))))
          clear hKp Kp
          have hsz26 := hs26
          (try simp only [Act.put, aP, aZ, aS])
          refine rg_one (i := 22) (by kernel_rfl) rfl rfl (fun Kp hKp => ?_)
          ((with_reducible apply st_buildSlice); assumption; rfl; (go_simp; rfl); (simp [Value.cells]); omega; intro b27 w27 hs27)
          refine rg_back (hK := hKp) ?_ (fun hsk27 => ?_)
          · (first | assumption | (apply Sat.drew; assumption) | (apply Sat.pick; assumption; (repeat (first | exact Pick.nil _ | with_reducible exact Pick.tail _ | with_reducible exact Out.here _ | apply Out.there | apply Pick.cons | apply Pick.drop))))
          clear hKp Kp
          have hsz27 := hs27
          (try simp only [Act.put, aP, aZ, aS])
          refine rg_one (i := 25) (by kernel_rfl) rfl rfl (fun Kp hKp => ?_)
          ((with_reducible apply st_append); go_must (assumption; rfl; rfl; (repeat (first | with_reducible exact Out.here _ | apply Out.there)); (repeat (first | with_reducible assumption | with_reducible exact Rd.own | with_reducible exact Rd.nil | with_reducible apply Rd.cons)); (first | exact B8_one _ | exact I8_one _ | (simp [Value.oneCell'])); (first | omega | (simp only [maxLen]; omega)); omega; intro A30 c30 w30 hs30 hc30; (try ((refine hs30.own_elim ?_ ?_); omega; rintro g30 rfl)); try simp only [Nat.zero_add, List.nil_append] at hs30 hc30))
          refine rg_back (hK := hKp) ?_ (fun hsk30 => ?_)
          · (first | assumption | (apply Sat.drew; assumption) | (apply Sat.pick; assumption; (repeat (first | exact Pick.nil _ | with_reducible exact Pick.tail _ | with_reducible exact Out.here _ | apply Out.there | apply Pick.cons | apply Pick.drop))))
          clear hKp Kp
          have hsz30 := hs30
          (try simp only [Act.put, aP, aZ, aS])
          refine rg_take (i := 26) (v := ?_) rfl (by kernel_rfl) (by kernel_rfl) (by kernel_rfl) (fun _ _ _ h => h) rfl (by assumption) ?_ ?_
          rotate_left
          · intro w hSw; (go_simp; first | done | with_reducible rfl | rfl | omega | assumption | (simp; omega))
          (try simp only [Act.put, aP, aZ, aS])
          refine rg_one (i := 28) (by kernel_rfl) rfl rfl (fun Kp hKp => ?_)
          (first | ((with_reducible apply st_storeAll); assumption; rfl; (go_simp; rfl); (repeat (first | with_reducible exact Out.here _ | apply Out.there)); rfl; (focus (first | (simp [Value.oneCell']; done) | (simp [Value.cells, Value.oneCell']; done))); rfl; intro wr1_28 hsr1_28; simp only [Value.cells] at hsr1_28) | ((with_reducible apply st_store); assumption; rfl; (go_simp; rfl); (repeat (first | with_reducible exact Out.here _ | apply Out.there)); rfl; (first | (focus (simp [Value.oneCell']; done)) | (simp [Value.cells, Value.oneCell'])); (first | (focus (simp; done)) | (simp [Value.cells])); intro wr1_28 hsr1_28; simp only [upd, Value.cells] at hsr1_28))
          refine rg_back (hK := hKp) ?_ (fun hskr1_28 => ?_)
          · (first | assumption | (apply Sat.drew; assumption) | (apply Sat.pick; assumption; (repeat (first | exact Pick.nil _ | with_reducible exact Pick.tail _ | with_reducible exact Out.here _ | apply Out.there | apply Pick.cons | apply Pick.drop))))
          clear hKp Kp
          have hszr1_28 := hsr1_28
          (try dsimp only [Act.put])
          refine rg_done (by kernel_rfl) ?_
          refine (by assumption : ∀ a' w', Met _ a' w' → _) _ _ ?_
          go_meet
          case rel => exact ⟨_, _, _, _, _, rfl, (by assumption : Sat w0 _ _).pick (by (repeat (first | exact Pick.nil _ | exact Pick.tail _ | exact Out.here _ | apply Out.there | apply Pick.cons | apply Pick.drop)))⟩
        · ((with_reducible apply st_buildSlice); assumption; rfl; (go_simp; rfl); (simp [Value.cells]); omega; intro b27 w27 hs27)
          refine rg_back (hK := hKp) ?_ (fun hsk27 => ?_)
          · (first | assumption | (apply Sat.drew; assumption) | (apply Sat.pick; assumption; (repeat (first | exact Pick.nil _ | with_reducible exact Pick.tail _ | with_reducible exact Out.here _ | apply Out.there | apply Pick.cons | apply Pick.drop))))
          clear hKp Kp
          have hsz27 := hs27
          (try simp only [Act.put, aP, aZ, aS])
          refine rg_one (i := 21) (by kernel_rfl) rfl rfl (fun Kp hKp => ?_)
          ((with_reducible apply st_append); go_must (assumption; rfl; rfl; (repeat (first | with_reducible exact Out.here _ | apply Out.there)); (repeat (first | with_reducible assumption | with_reducible exact Rd.own | with_reducible exact Rd.nil | with_reducible apply Rd.cons)); (first | exact B8_one _ | exact I8_one _ | (simp [Value.oneCell'])); (first | omega | (simp only [maxLen]; omega)); omega; intro A26 c26 w26 hs26 hc26; (try ((refine hs26.own_elim ?_ ?_); omega; rintro g26 rfl)); try simp only [Nat.zero_add, List.nil_append] at hs26 hc26))
          refine rg_back (hK := hKp) ?_ (fun hsk26 => ?_)
          · (first | assumption | (apply Sat.drew; assumption) | (apply Sat.pick; assumption; (repeat (first | exact Pick.nil _ | with_reducible exact Pick.tail _ | with_reducible exact Out.here _ | apply Out.there | apply Pick.cons | apply Pick.drop))))
          clear hKp Kp
          have hsz26 := hs26
          (try simp only [Act.put, aP, aZ, aS])
          refine rg_one (i := 25) (by kernel_rfl) rfl rfl (fun Kp hKp => ?_)
          ((with_reducible apply st_append); go_must (assumption; rfl; rfl; (repeat (first | with_reducible exact Out.here _ | apply Out.there)); (repeat (first | with_reducible assumption | with_reducible exact Rd.own | with_reducible exact Rd.nil | with_reducible apply Rd.cons)); (first | exact B8_one _ | exact I8_one _ | (simp [Value.oneCell'])); (first | omega | (simp only [maxLen]; omega)); omega; intro A30 c30 w30 hs30 hc30; (try ((refine hs30.own_elim ?_ ?_); omega; rintro g30 rfl)); try simp only [Nat.zero_add, List.nil_append] at hs30 hc30))
          refine rg_back (hK := hKp) ?_ (fun hsk30 => ?_)
          · (first | assumption | (apply Sat.drew; assumption) | (apply Sat.pick; assumption; (repeat (first | exact Pick.nil _ | with_reducible exact Pick.tail _ | with_reducible exact Out.here _ | apply Out.there | apply Pick.cons | apply Pick.drop))))
          clear hKp Kp
          have hsz30 := hs30
          (try simp only [Act.put, aP, aZ, aS])
          refine rg_take (i := 26) (v := ?_) rfl (by kernel_rfl) (by kernel_rfl) (by kernel_rfl) (fun _ _ _ h => h) rfl (by assumption) ?_ ?_
          rotate_left
          · intro w hSw; (go_simp; first | done | with_reducible rfl | rfl | omega | assumption | (simp; omega))
          (try simp only [Act.put, aP, aZ, aS])
          refine rg_one (i := 28) (by kernel_rfl) rfl rfl (fun Kp hKp => ?_)
          (first | ((with_reducible apply st_storeAll); assumption; rfl; (go_simp; rfl); (repeat (first | with_reducible exact Out.here _ | apply Out.there)); rfl; (focus (first | (simp [Value.oneCell']; done) | (simp [Value.cells, Value.oneCell']; done))); rfl; intro wr1_28 hsr1_28; simp only [Value.cells] at hsr1_28) | ((with_reducible apply st_store); assumption; rfl; (go_simp; rfl); (repeat (first | with_reducible exact Out.here _ | apply Out.there)); rfl; (first | (focus (simp [Value.oneCell']; done)) | (simp [Value.cells, Value.oneCell'])); (first | (focus (simp; done)) | (simp [Value.cells])); intro wr1_28 hsr1_28; simp only [upd, Value.cells] at hsr1_28))
          refine rg_back (hK := hKp) ?_ (fun hskr1_28 => ?_)
          · (first | assumption | (apply Sat.drew; assumption) | (apply Sat.pick; assumption; (repeat (first | exact Pick.nil _ | with_reducible exact Pick.tail _ | with_reducible exact Out.here _ | apply Out.there | apply Pick.cons | apply Pick.drop))))
          clear hKp Kp
          have hszr1_28 := hsr1_28
          (try dsimp only [Act.put])
          refine rg_done (by kernel_rfl) ?_
          refine (by assumption : ∀ a' w', Met _ a' w' → _) _ _ ?_
          go_meet
          case rel => exact ⟨_, _, _, _, _, rfl, (by assumption : Sat w0 _ _).pick (by (repeat (first | exact Pick.nil _ | exact Pick.tail _ | exact Out.here _ | apply Out.there | apply Pick.cons | apply Pick.drop)))⟩
      · ((with_reducible apply st_buildSlice); assumption; rfl; (go_simp; rfl); (simp [Value.cells]); omega; intro b27 w27 hs27)
        refine rg_back (hK := hKp) ?_ (fun hsk27 => ?_)
        · (first | assumption | (apply Sat.drew; assumption) | (apply Sat.pick; assumption; (repeat (first | exact Pick.nil _ | with_reducible exact Pick.tail _ | with_reducible exact Out.here _ | apply Out.there | apply Pick.cons | apply Pick.drop))))
        clear hKp Kp
        have hsz27 := hs27
        (try simp only [Act.put, aP, aZ, aS])
        refine rg_one (i := 18) (by kernel_rfl) rfl rfl (fun Kp hKp => ?_)
        ((with_reducible apply st_buildSlice); assumption; rfl; (go_simp; rfl); (simp [Value.cells]); omega; intro b23 w23 hs23)
        refine rg_back (hK := hKp) ?_ (fun hsk23 => ?_)
        · (first | assumption | (apply Sat.drew; assumption) | (apply Sat.pick; assumption; (repeat (first | exact Pick.nil _ | with_reducible exact Pick.tail _ | with_reducible exact Out.here _ | apply Out.there | apply Pick.cons | apply Pick.drop))))
        clear hKp Kp
        have hsz23 := hs23
        (try simp only [Act.put, aP, aZ, aS])
        refine rg_one (i := 21) (by kernel_rfl) rfl rfl (fun Kp hKp => ?_)
        ((with_reducible apply st_append); go_must (assumption; rfl; rfl; (repeat (first | with_reducible exact Out.here _ | apply Out.there)); (repeat (first | with_reducible assumption | with_reducible exact Rd.own | with_reducible exact Rd.nil | with_reducible apply Rd.cons)); (first | exact B8_one _ | exact I8_one _ | (simp [Value.oneCell'])); (first | omega | (simp only [maxLen]; omega)); omega; intro A26 c26 w26 hs26 hc26; (try ((refine hs26.own_elim ?_ ?_); omega; rintro g26 rfl)); try simp only [Nat.zero_add, List.nil_append] at hs26 hc26))
        refine rg_back (hK := hKp) ?_ (fun hsk26 => ?_)
        · (first | assumption | (apply Sat.drew; assumption) | (apply Sat.pick; assumption; (repeat (first | exact Pick.nil _ | with_reducible exact Pick.tail _ | with_reducible exact Out.here _ | apply Out.there | apply Pick.cons | apply Pick.drop))))
        clear hKp Kp
        have hsz26 := hs26
        (try simp only [Act.put, aP, aZ, aS])
        refine rg_one (i := 25) (by kernel_rfl) rfl rfl (fun Kp hKp => ?_)
        ((with_reducible apply st_append); go_must (assumption; rfl; rfl; (repeat (first | with_reducible exact Out.here _ | apply Out.there)); (repeat (first | with_reducible assumption | with_reducible exact Rd.own | with_reducible exact Rd.nil | with_reducible apply Rd.cons)); (first | exact B8_one _ | exact I8_one _ | (simp [Value.oneCell'])); (first | omega | (simp only [maxLen]; omega)); omega; intro A30 c30 w30 hs30 hc30; (try ((refine hs30.own_elim ?_ ?_); omega; rintro g30 rfl)); try simp only [Nat.zero_add, List.nil_append] at hs30 hc30))
        refine rg_back (hK := hKp) ?_ (fun hsk30 => ?_)
        · (first | assumption | (apply Sat.drew; assumption) | (apply Sat.pick; assumption; (repeat (first | exact Pick.nil _ | with_reducible exact Pick.tail _ | with_reducible exact Out.here _ | apply Out.there | apply Pick.cons | apply Pick.drop))))
        clear hKp Kp
        have hsz30 := hs30
        (try simp only [Act.put, aP, aZ, aS])
        refine rg_take (i := 26) (v := ?_) rfl (by kernel_rfl) (by kernel_rfl) (by kernel_rfl) (fun _ _ _ h => h) rfl (by assumption) ?_ ?_
        rotate_left
        · intro w hSw; (go_simp; first | done | with_reducible rfl | rfl | omega | assumption | (simp; omega))
        (try simp only [Act.put, aP, aZ, aS])
        refine rg_one (i := 28) (by kernel_rfl) rfl rfl (fun Kp hKp => ?_)
        (first | ((with_reducible apply st_storeAll); assumption; rfl; (go_simp; rfl); (repeat (first | with_reducible exact Out.here _ | apply Out.there)); rfl; (focus (first | (simp [Value.oneCell']; done) | (simp [Value.cells, Value.oneCell']; done))); rfl; intro wr1_28 hsr1_28; simp only [Value.cells] at hsr1_28) | ((with_reducible apply st_store); assumption; rfl; (go_simp; rfl); (repeat (first | with_reducible exact Out.here _ | apply Out.there)); rfl; (first | (focus (simp [Value.oneCell']; done)) | (simp [Value.cells, Value.oneCell'])); (first | (focus (simp; done)) | (simp [Value.cells])); intro wr1_28 hsr1_28; simp only [upd, Value.cells] at hsr1_28))
        refine rg_back (hK := hKp) ?_ (fun hskr1_28 => ?_)
        · (first | assumption | (apply Sat.drew; assumption) | (apply Sat.pick; assumption; (repeat (first | exact Pick.nil _ | with_reducible exact Pick.tail _ | with_reducible exact Out.here _ | apply Out.there | apply Pick.cons | apply Pick.drop))))
        clear hKp Kp
        have hszr1_28 := hsr1_28
        (try dsimp only [Act.put])
        refine rg_done (by kernel_rfl) ?_
        refine (by assumption : ∀ a' w', Met _ a' w' → _) _ _ ?_
        go_meet
        case rel => exact ⟨_, _, _, _, _, rfl, (by assumption : Sat w0 _ _).pick (by (repeat (first | exact Pick.nil _ | exact Pick.tail _ | exact Out.here _ | apply Out.there | apply Pick.cons | apply Pick.drop)))⟩
  case rest =>
    obtain ⟨b3, A1, c1, A2, c2, rfl, hsA⟩ := hcut
    have hsA0 := (hsA.own_nil 41 4).dv_nil
    clear hs0 hs2
    refine hK1.out _ _ ?_
    clear hK1 K1
    refine wk_seq (fun K2 hK2 => ?_)
    refine wk_seq (fun K3 hK3 => ?_)
    refine wk_reg ?_
    refine pl_take (v := ?_) rfl ?_ ?_
    rotate_left
    · (go_simp; first | done | with_reducible rfl | rfl | omega | assumption | (simp; omega))
    (try simp only [Act.put, aP, aZ, aS])
    refine pl_done ?_
    refine hK3.out _ _ ?_
    (try clear hK3 K3)
    refine wp_block ?_
    -- at a loop
    go_loopw [4] (fun i wr => ∃ (k : Nat) (A4 : Option Addr) (c4 : Nat) (ys : List (Ent × Option Addr × Nat)), i = .int .i64 k ∧ k ≤ es.length ∧ ys.length = k ∧ ys.map (·.1) = es.take k ∧ Sat w0 wr (own 41 4 A4 c4 k (entsCells ys) :: DV (entsData ys) :: blk b3 (.cells #[.int .i64 kd, .int .i64 fr, .int .i64 dn, .int .i64 tm, .int .i64 na, .int .i64 nb, .int .i64 nc, .int .i64 nd, .bool yes, .slice A4 k c4, .slice A1 sv.length c1, .slice A2 dt.length c2] 27 (0, 0)) :: own 3 1 A1 c1 sv.length (I8 sv) :: own 5 1 A2 c2 dt.length (B8 dt) :: blk b1 (.cells #[.int .i64 kd, .int .i64 fr, .int .i64 dn, .int .i64 tm, .int .i64 na, .int .i64 nb, .int .i64 nc, .int .i64 nd, .bool yes, .slice A es.length ca, .slice B sv.length cb, .slice C dt.length cc] 26 (0, 0)) :: blk b2 (.cells #[.int .i64 0, .int .i64 0, .int .i64 0, .int .i64 0, .int .i64 0, .int .i64 0, .int .i64 0, .int .i64 0, .bool false, .slice none 0 0, .slice none 0 0, .slice none 0 0] 27 (0, 0)) :: L)) (fun i _ => es.length - (intOf i).toNat)
    case atStart => exact ⟨0, none, 0, [], rfl, Nat.zero_le _, rfl, by simp, (by assumption : Sat w0 _ _).pick (by (repeat (first | exact Pick.nil _ | exact Pick.tail _ | exact Out.here _ | apply Out.there | apply Pick.cons | apply Pick.drop)))⟩
    case round =>
      obtain ⟨k, A4, c4, ys, rfl, hk, hyl, hym, hsC⟩ := hrel
      clear hsA0 hsA
      by_cases hlt : k < es.length
      · obtain ⟨x, hx⟩ : ∃ x, es[k]? = some x := ⟨es[k], List.getElem?_eq_getElem hlt⟩
        obtain ⟨⟨Ax, cx, ex, hrx⟩, _⟩ := hel k x hx
        obtain ⟨ga, oa, rfl⟩ := hRv.some_of hs (by omega)
        have hrow := hRv.row_at k hlt
        rw [ex] at hrow
        have hxl := hlen x (List.mem_of_getElem? hx)
        obtain ⟨t, i, q, d⟩ := x
        simp only at hrow hrx hxl
        have i0 : (0 : Int) ≤ (k : Int) := by omega
        have i1 : (k : Int) < (es.length : Int) := by omega
        have hwk : IntKind.i64.wrap ((k : Int) + 1) = (k : Int) + 1 := IntWalk.i64_in _ (by omega)
        clear ex hel
        refine wk_seq (fun K4 hK4 => ?_)
        refine wk_seq (fun K5 hK5 => ?_)
        refine wk_reg ?_
        iterate 4 (refine pl_take (v := ?_) rfl ?_ ?_; rotate_left; (· (first | ((with_reducible apply yl_load); assumption; rfl; (repeat (first | with_reducible assumption | ((with_reducible apply Cl.own); exact rfl) | ((with_reducible apply Cl.blkL); exact rfl) | with_reducible apply Cl.cons)); rfl) | (go_simp; first | done | with_reducible rfl | rfl | omega | assumption | (simp; omega)))); (try simp only [Act.put, aP, aZ, aS]))
        refine pl_take (v := .bool true) rfl ?_ ?_
        · (go_simp; first | done | with_reducible rfl | rfl | omega | assumption | (simp; omega))
        (try simp only [Act.put, aP, aZ, aS])
        refine pl_done ?_
        refine hK5.out _ _ ?_
        (try clear hK5 K5)
        refine wp_cond_true rfl ?_
        refine wp_skip ?_
        refine hK4.out _ _ ?_
        (try clear hK4 K4)
        refine wk_seq (fun K6 hK6 => ?_)
        refine wp_block ?_
        refine rg_start2 (L := (blk b1 (.cells #[.int .i64 kd, .int .i64 fr, .int .i64 dn, .int .i64 tm, .int .i64 na, .int .i64 nb, .int .i64 nc, .int .i64 nd, .bool yes, .slice (some ⟨ga, oa, none⟩) es.length ca, .slice B sv.length cb, .slice C dt.length cc] 26 (0, 0)) :: L)) rfl (by assumption) (by (repeat (first | exact Pick.nil _ | with_reducible exact Pick.tail _ | with_reducible exact Out.here _ | apply Out.there | apply Pick.cons | apply Pick.drop))) (fun wr5 hsr5 hsq5 => ?_)
        have hsz5 := hsr5
        refine rg_take (i := 0) (v := ?_) rfl (by kernel_rfl) (by kernel_rfl) (by kernel_rfl) (fun _ _ _ h => h) rfl (by assumption) ?_ ?_
        rotate_left
        · intro w hSw; (go_simp; first | done | with_reducible rfl | rfl | omega | assumption | (simp; omega))
        (try simp only [Act.put, aP, aZ, aS])
        refine rg_take (i := 2) (v := ?_) rfl (by kernel_rfl) (by kernel_rfl) (by kernel_rfl) (fun _ _ _ h => h) rfl (by assumption) ?_ ?_
        rotate_left
        · intro w hSw; (go_simp; first | done | with_reducible rfl | rfl | omega | assumption | (simp; omega))
        (try simp only [Act.put, aP, aZ, aS])
        refine rg_take (i := 3) (v := ?_) rfl (by kernel_rfl) (by kernel_rfl) (by kernel_rfl) (fun _ _ _ h => h) rfl (by assumption) ?_ ?_
        rotate_left
        · intro w hSw; ((with_reducible apply yl_load); assumption; rfl; (repeat (first | with_reducible assumption | ((with_reducible apply Cl.own); exact rfl) | ((with_reducible apply Cl.blkL); exact rfl) | with_reducible apply Cl.cons)); rfl)
        (try simp only [Act.put, aP, aZ, aS])
        refine rg_take (i := 4) (v := ?_) rfl (by kernel_rfl) (by kernel_rfl) (by kernel_rfl) (fun _ _ _ h => h) rfl (by assumption) ?_ ?_
        rotate_left
        · intro w hSw; (go_simp; first | done | with_reducible rfl | rfl | omega | assumption | (simp; omega))
        (try simp only [Act.put, aP, aZ, aS])
        refine rg_take (i := 5) (v := ?_) rfl (by kernel_rfl) (by kernel_rfl) (by kernel_rfl) (fun _ _ _ h => h) rfl (by assumption) ?_ ?_
        rotate_left
        · intro w hSw; (go_simp; first | done | with_reducible rfl | rfl | omega | assumption | (simp; omega))
        (try simp only [Act.put, aP, aZ, aS])
        refine rg_take (i := 6) (v := ?_) rfl (by kernel_rfl) (by kernel_rfl) (by kernel_rfl) (fun _ _ _ h => h) rfl (by assumption) ?_ ?_
        rotate_left
        · intro w hSw; (first | ((with_reducible apply yl_loadAgg); assumption; rfl; (repeat (first | with_reducible exact Out.here _ | apply Out.there)); (simp); rfl; rfl) | ((with_reducible apply yl_loadAggR); assumption; rfl; (repeat (first | with_reducible assumption | with_reducible exact Rd.own | with_reducible exact Rd.nil | with_reducible apply Rd.cons)); rfl))
        (try simp only [Act.put, aP, aZ, aS])
        refine rg_two (i := 1) (j := 7) (by kernel_rfl) rfl rfl rfl rfl (fun Kp hKp => ?_) (fun Kp hKp => ?_)
        · ((with_reducible apply st_load); assumption; rfl; (repeat (first | with_reducible assumption | ((with_reducible apply Cl.own); exact rfl) | ((with_reducible apply Cl.blkL); exact rfl) | with_reducible apply Cl.cons)))
          refine rg_back (hK := hKp) ?_ (fun hsk40 => ?_)
          · (first | assumption | (apply Sat.drew; assumption) | (apply Sat.pick; assumption; (repeat (first | exact Pick.nil _ | with_reducible exact Pick.tail _ | with_reducible exact Out.here _ | apply Out.there | apply Pick.cons | apply Pick.drop))))
          clear hKp Kp
          have hsz40 := hsr5
          (try simp only [Act.put, aP, aZ, aS])
          refine rg_one (i := 7) (by kernel_rfl) rfl rfl (fun Kp hKp => ?_)
          go_simp
          ((refine (own3_spec _ _ _ _ (by omega) (by assumption) (by (repeat (first | with_reducible assumption | with_reducible exact Rd.own | with_reducible exact Rd.nil | with_reducible apply Rd.cons)))).mono ?_); rintro e46 w46 ⟨A46, c46, rfl, hs46⟩)
          (try go_wp2_with fail)
          refine rg_back (hK := hKp) ?_ (fun hsk46 => ?_)
          · (first | assumption | (apply Sat.drew; assumption) | (apply Sat.pick; assumption; (repeat (first | exact Pick.nil _ | with_reducible exact Pick.tail _ | with_reducible exact Out.here _ | apply Out.there | apply Pick.cons | apply Pick.drop))))
          clear hKp Kp
          have hsz46 := hs46
          (try simp only [Act.put, aP, aZ, aS])
          refine rg_one (i := 8) (by kernel_rfl) rfl rfl (fun Kp hKp => ?_)
          ((with_reducible apply st_buildOne (sz := 4)); assumption; (go_simp; rfl); rfl; omega; omega; intro b47 w47 hs47; simp only [Value.cells] at hs47)
          refine rg_back (hK := hKp) ?_ (fun hsk47 => ?_)
          · (first | assumption | (apply Sat.drew; assumption) | (apply Sat.pick; assumption; (repeat (first | exact Pick.nil _ | with_reducible exact Pick.tail _ | with_reducible exact Out.here _ | apply Out.there | apply Pick.cons | apply Pick.drop))))
          clear hKp Kp
          have hsz47 := hs47
          (try simp only [Act.put, aP, aZ, aS])
          refine rg_one (i := 9) (by kernel_rfl) rfl rfl (fun Kp hKp => ?_)
          ((with_reducible apply st_append); go_must (assumption; rfl; rfl; (repeat (first | with_reducible exact Out.here _ | apply Out.there)); (repeat (first | with_reducible assumption | with_reducible exact Rd.own | with_reducible exact Rd.nil | with_reducible apply Rd.cons)); (first | exact B8_one _ | exact I8_one _ | (simp [Value.oneCell'])); (first | omega | (simp only [maxLen]; omega)); omega; intro A48 c48 w48 hs48 hc48; (try ((refine hs48.own_elim ?_ ?_); omega; rintro g48 rfl)); try simp only [Nat.zero_add, List.nil_append] at hs48 hc48))
          refine rg_back (hK := hKp) ?_ (fun hsk48 => ?_)
          · (first | assumption | (apply Sat.drew; assumption) | (apply Sat.pick; assumption; (repeat (first | exact Pick.nil _ | with_reducible exact Pick.tail _ | with_reducible exact Out.here _ | apply Out.there | apply Pick.cons | apply Pick.drop))))
          clear hKp Kp
          have hsz48 := hs48
          (try simp only [Act.put, aP, aZ, aS])
          refine rg_take (i := 10) (v := ?_) rfl (by kernel_rfl) (by kernel_rfl) (by kernel_rfl) (fun _ _ _ h => h) rfl (by assumption) ?_ ?_
          rotate_left
          · intro w hSw; (go_simp; first | done | with_reducible rfl | rfl | omega | assumption | (simp; omega))
          (try simp only [Act.put, aP, aZ, aS])
          refine rg_one (i := 11) (by kernel_rfl) rfl rfl (fun Kp hKp => ?_)
          (first | ((with_reducible apply st_store1); assumption; rfl; (go_simp; rfl); (repeat (first | with_reducible exact Out.here _ | apply Out.there)); rfl; rfl; simp; intro wr5_11 hsr5_11; (try simp only [aP] at hsr5_11); (try simp only [aS] at hsr5_11); (try simp only [aZ] at hsr5_11)) | ((with_reducible apply st_store_own); assumption; rfl; (go_simp; rfl); (repeat (first | with_reducible exact Out.here _ | apply Out.there)); rfl; rfl; omega; intro wr5_11 hsr5_11))
          refine rg_back (hK := hKp) ?_ (fun hskr5_11 => ?_)
          · (first | assumption | (apply Sat.drew; assumption) | (apply Sat.pick; assumption; (repeat (first | exact Pick.nil _ | with_reducible exact Pick.tail _ | with_reducible exact Out.here _ | apply Out.there | apply Pick.cons | apply Pick.drop))))
          clear hKp Kp
          have hszr5_11 := hsr5_11
          (try dsimp only [Act.put])
          refine rg_done (by kernel_rfl) ?_
          refine hK6.out _ _ ?_
          (try clear hK6 K6)
          refine wk_reg ?_
          iterate 3 (refine pl_take (v := ?_) rfl ?_ ?_; rotate_left; (· (go_simp; first | done | with_reducible rfl | rfl | omega | assumption | (simp; omega))); (try simp only [Act.put, aP, aZ, aS]))
          refine pl_done ?_
          dsimp only [Exit.then]
          go_roundw
          case rel => (refine ⟨k + 1, some ⟨g48, 0, none⟩, c48, ys ++ [(⟨t, i, q, d⟩, A46, c46)], by go_num, by omega, by simp [hyl], by rw [List.map_append, hym, List.map_singleton, take_snoc hx], ?_⟩; rw [entsCells_snoc, entsData_snoc]; refine Sat.dv_snoc2 (E := 5) (c := c46) ?_; exact hsr5_11.pick (by simp only [entCells]; (repeat (first | exact Pick.nil _ | exact Pick.tail _ | exact Out.here _ | apply Out.there | apply Pick.cons | apply Pick.drop))))
          case measure => simp [intOf]; omega
        · go_simp
          ((refine (own3_spec _ _ _ _ (by omega) (by assumption) (by (repeat (first | with_reducible assumption | with_reducible exact Rd.own | with_reducible exact Rd.nil | with_reducible apply Rd.cons)))).mono ?_); rintro e46 w46 ⟨A46, c46, rfl, hs46⟩)
          (try go_wp2_with fail)
          refine rg_back (hK := hKp) ?_ (fun hsk46 => ?_)
          · (first | assumption | (apply Sat.drew; assumption) | (apply Sat.pick; assumption; (repeat (first | exact Pick.nil _ | with_reducible exact Pick.tail _ | with_reducible exact Out.here _ | apply Out.there | apply Pick.cons | apply Pick.drop))))
          clear hKp Kp
          have hsz46 := hs46
          (try simp only [Act.put, aP, aZ, aS])
          refine rg_two (i := 1) (j := 8) (by kernel_rfl) rfl rfl rfl rfl (fun Kp hKp => ?_) (fun Kp hKp => ?_)
          · ((with_reducible apply st_load); assumption; rfl; (repeat (first | with_reducible assumption | ((with_reducible apply Cl.own); exact rfl) | ((with_reducible apply Cl.blkL); exact rfl) | with_reducible apply Cl.cons)))
            refine rg_back (hK := hKp) ?_ (fun hsk40 => ?_)
            · (first | assumption | (apply Sat.drew; assumption) | (apply Sat.pick; assumption; (repeat (first | exact Pick.nil _ | with_reducible exact Pick.tail _ | with_reducible exact Out.here _ | apply Out.there | apply Pick.cons | apply Pick.drop))))
            clear hKp Kp
            have hsz40 := hs46
            (try simp only [Act.put, aP, aZ, aS])
            refine rg_one (i := 8) (by kernel_rfl) rfl rfl (fun Kp hKp => ?_)
            ((with_reducible apply st_buildOne (sz := 4)); assumption; (go_simp; rfl); rfl; omega; omega; intro b47 w47 hs47; simp only [Value.cells] at hs47)
            refine rg_back (hK := hKp) ?_ (fun hsk47 => ?_)
            · (first | assumption | (apply Sat.drew; assumption) | (apply Sat.pick; assumption; (repeat (first | exact Pick.nil _ | with_reducible exact Pick.tail _ | with_reducible exact Out.here _ | apply Out.there | apply Pick.cons | apply Pick.drop))))
            clear hKp Kp
            have hsz47 := hs47
            (try simp only [Act.put, aP, aZ, aS])
            refine rg_one (i := 9) (by kernel_rfl) rfl rfl (fun Kp hKp => ?_)
            ((with_reducible apply st_append); go_must (assumption; rfl; rfl; (repeat (first | with_reducible exact Out.here _ | apply Out.there)); (repeat (first | with_reducible assumption | with_reducible exact Rd.own | with_reducible exact Rd.nil | with_reducible apply Rd.cons)); (first | exact B8_one _ | exact I8_one _ | (simp [Value.oneCell'])); (first | omega | (simp only [maxLen]; omega)); omega; intro A48 c48 w48 hs48 hc48; (try ((refine hs48.own_elim ?_ ?_); omega; rintro g48 rfl)); try simp only [Nat.zero_add, List.nil_append] at hs48 hc48))
            refine rg_back (hK := hKp) ?_ (fun hsk48 => ?_)
            · (first | assumption | (apply Sat.drew; assumption) | (apply Sat.pick; assumption; (repeat (first | exact Pick.nil _ | with_reducible exact Pick.tail _ | with_reducible exact Out.here _ | apply Out.there | apply Pick.cons | apply Pick.drop))))
            clear hKp Kp
            have hsz48 := hs48
            (try simp only [Act.put, aP, aZ, aS])
            refine rg_take (i := 10) (v := ?_) rfl (by kernel_rfl) (by kernel_rfl) (by kernel_rfl) (fun _ _ _ h => h) rfl (by assumption) ?_ ?_
            rotate_left
            · intro w hSw; (go_simp; first | done | with_reducible rfl | rfl | omega | assumption | (simp; omega))
            (try simp only [Act.put, aP, aZ, aS])
            refine rg_one (i := 11) (by kernel_rfl) rfl rfl (fun Kp hKp => ?_)
            (first | ((with_reducible apply st_store1); assumption; rfl; (go_simp; rfl); (repeat (first | with_reducible exact Out.here _ | apply Out.there)); rfl; rfl; simp; intro wr5_11 hsr5_11; (try simp only [aP] at hsr5_11); (try simp only [aS] at hsr5_11); (try simp only [aZ] at hsr5_11)) | ((with_reducible apply st_store_own); assumption; rfl; (go_simp; rfl); (repeat (first | with_reducible exact Out.here _ | apply Out.there)); rfl; rfl; omega; intro wr5_11 hsr5_11))
            refine rg_back (hK := hKp) ?_ (fun hskr5_11 => ?_)
            · (first | assumption | (apply Sat.drew; assumption) | (apply Sat.pick; assumption; (repeat (first | exact Pick.nil _ | with_reducible exact Pick.tail _ | with_reducible exact Out.here _ | apply Out.there | apply Pick.cons | apply Pick.drop))))
            clear hKp Kp
            have hszr5_11 := hsr5_11
            (try dsimp only [Act.put])
            refine rg_done (by kernel_rfl) ?_
            refine hK6.out _ _ ?_
            (try clear hK6 K6)
            refine wk_reg ?_
            iterate 3 (refine pl_take (v := ?_) rfl ?_ ?_; rotate_left; (· (go_simp; first | done | with_reducible rfl | rfl | omega | assumption | (simp; omega))); (try simp only [Act.put, aP, aZ, aS]))
            refine pl_done ?_
            dsimp only [Exit.then]
            go_roundw
            case rel => (refine ⟨k + 1, some ⟨g48, 0, none⟩, c48, ys ++ [(⟨t, i, q, d⟩, A46, c46)], by go_num, by omega, by simp [hyl], by rw [List.map_append, hym, List.map_singleton, take_snoc hx], ?_⟩; rw [entsCells_snoc, entsData_snoc]; refine Sat.dv_snoc2 (E := 5) (c := c46) ?_; exact hsr5_11.pick (by simp only [entCells]; (repeat (first | exact Pick.nil _ | exact Pick.tail _ | exact Out.here _ | apply Out.there | apply Pick.cons | apply Pick.drop))))
            case measure => simp [intOf]; omega
          · ((with_reducible apply st_buildOne (sz := 4)); assumption; (go_simp; rfl); rfl; omega; omega; intro b47 w47 hs47; simp only [Value.cells] at hs47)
            refine rg_back (hK := hKp) ?_ (fun hsk47 => ?_)
            · (first | assumption | (apply Sat.drew; assumption) | (apply Sat.pick; assumption; (repeat (first | exact Pick.nil _ | with_reducible exact Pick.tail _ | with_reducible exact Out.here _ | apply Out.there | apply Pick.cons | apply Pick.drop))))
            clear hKp Kp
            have hsz47 := hs47
            (try simp only [Act.put, aP, aZ, aS])
            refine rg_one (i := 1) (by kernel_rfl) rfl rfl (fun Kp hKp => ?_)
            ((with_reducible apply st_load); assumption; rfl; (repeat (first | with_reducible assumption | ((with_reducible apply Cl.own); exact rfl) | ((with_reducible apply Cl.blkL); exact rfl) | with_reducible apply Cl.cons)))
            refine rg_back (hK := hKp) ?_ (fun hsk40 => ?_)
            · (first | assumption | (apply Sat.drew; assumption) | (apply Sat.pick; assumption; (repeat (first | exact Pick.nil _ | with_reducible exact Pick.tail _ | with_reducible exact Out.here _ | apply Out.there | apply Pick.cons | apply Pick.drop))))
            clear hKp Kp
            have hsz40 := hs47
            (try simp only [Act.put, aP, aZ, aS])
            refine rg_one (i := 9) (by kernel_rfl) rfl rfl (fun Kp hKp => ?_)
            ((with_reducible apply st_append); go_must (assumption; rfl; rfl; (repeat (first | with_reducible exact Out.here _ | apply Out.there)); (repeat (first | with_reducible assumption | with_reducible exact Rd.own | with_reducible exact Rd.nil | with_reducible apply Rd.cons)); (first | exact B8_one _ | exact I8_one _ | (simp [Value.oneCell'])); (first | omega | (simp only [maxLen]; omega)); omega; intro A48 c48 w48 hs48 hc48; (try ((refine hs48.own_elim ?_ ?_); omega; rintro g48 rfl)); try simp only [Nat.zero_add, List.nil_append] at hs48 hc48))
            refine rg_back (hK := hKp) ?_ (fun hsk48 => ?_)
            · (first | assumption | (apply Sat.drew; assumption) | (apply Sat.pick; assumption; (repeat (first | exact Pick.nil _ | with_reducible exact Pick.tail _ | with_reducible exact Out.here _ | apply Out.there | apply Pick.cons | apply Pick.drop))))
            clear hKp Kp
            have hsz48 := hs48
            (try simp only [Act.put, aP, aZ, aS])
            refine rg_take (i := 10) (v := ?_) rfl (by kernel_rfl) (by kernel_rfl) (by kernel_rfl) (fun _ _ _ h => h) rfl (by assumption) ?_ ?_
            rotate_left
            · intro w hSw; (go_simp; first | done | with_reducible rfl | rfl | omega | assumption | (simp; omega))
            (try simp only [Act.put, aP, aZ, aS])
            refine rg_one (i := 11) (by kernel_rfl) rfl rfl (fun Kp hKp => ?_)
            (first | ((with_reducible apply st_store1); assumption; rfl; (go_simp; rfl); (repeat (first | with_reducible exact Out.here _ | apply Out.there)); rfl; rfl; simp; intro wr5_11 hsr5_11; (try simp only [aP] at hsr5_11); (try simp only [aS] at hsr5_11); (try simp only [aZ] at hsr5_11)) | ((with_reducible apply st_store_own); assumption; rfl; (go_simp; rfl); (repeat (first | with_reducible exact Out.here _ | apply Out.there)); rfl; rfl; omega; intro wr5_11 hsr5_11))
            refine rg_back (hK := hKp) ?_ (fun hskr5_11 => ?_)
            · (first | assumption | (apply Sat.drew; assumption) | (apply Sat.pick; assumption; (repeat (first | exact Pick.nil _ | with_reducible exact Pick.tail _ | with_reducible exact Out.here _ | apply Out.there | apply Pick.cons | apply Pick.drop))))
            clear hKp Kp
            have hszr5_11 := hsr5_11
            (try dsimp only [Act.put])
            refine rg_done (by kernel_rfl) ?_
            refine hK6.out _ _ ?_
            (try clear hK6 K6)
            refine wk_reg ?_
            iterate 3 (refine pl_take (v := ?_) rfl ?_ ?_; rotate_left; (· (go_simp; first | done | with_reducible rfl | rfl | omega | assumption | (simp; omega))); (try simp only [Act.put, aP, aZ, aS]))
            refine pl_done ?_
            dsimp only [Exit.then]
            go_roundw
            case rel => (refine ⟨k + 1, some ⟨g48, 0, none⟩, c48, ys ++ [(⟨t, i, q, d⟩, A46, c46)], by go_num, by omega, by simp [hyl], by rw [List.map_append, hym, List.map_singleton, take_snoc hx], ?_⟩; rw [entsCells_snoc, entsData_snoc]; refine Sat.dv_snoc2 (E := 5) (c := c46) ?_; exact hsr5_11.pick (by simp only [entCells]; (repeat (first | exact Pick.nil _ | exact Pick.tail _ | exact Out.here _ | apply Out.there | apply Pick.cons | apply Pick.drop))))
            case measure => simp [intOf]; omega
      · obtain rfl : k = es.length := by omega
        refine wk_seq (fun K4 hK4 => ?_)
        refine wk_seq (fun K5 hK5 => ?_)
        refine wk_reg ?_
        iterate 4 (refine pl_take (v := ?_) rfl ?_ ?_; rotate_left; (· (first | ((with_reducible apply yl_load); assumption; rfl; (repeat (first | with_reducible assumption | ((with_reducible apply Cl.own); exact rfl) | ((with_reducible apply Cl.blkL); exact rfl) | with_reducible apply Cl.cons)); rfl) | (go_simp; first | done | with_reducible rfl | rfl | omega | assumption | (simp; omega)))); (try simp only [Act.put, aP, aZ, aS]))
        refine pl_take (v := .bool false) rfl ?_ ?_
        · (go_simp; first | done | with_reducible rfl | rfl | omega | assumption | (simp; omega))
        (try simp only [Act.put, aP, aZ, aS])
        refine pl_done ?_
        refine hK5.out _ _ ?_
        (try clear hK5 K5)
        refine wp_cond_false rfl ?_
        refine wp_exit ?_
        refine hK2.out _ _ ?_
        (try clear hK2 K2)
        refine wk_seq (fun K7 hK7 => ?_)
        refine wk_reg ?_
        refine pl_take (v := ?_) rfl ?_ ?_
        rotate_left
        · (first | ((with_reducible apply yl_loadAgg); assumption; rfl; (repeat (first | with_reducible exact Out.here _ | apply Out.there)); (simp); rfl; rfl) | ((with_reducible apply yl_loadAggR); assumption; rfl; (repeat (first | with_reducible assumption | with_reducible exact Rd.own | with_reducible exact Rd.nil | with_reducible apply Rd.cons)); rfl))
        (try simp only [Act.put, aP, aZ, aS])
        refine pl_eff rfl (fun Kp hKp => ?_)
        (first | ((with_reducible apply st_storeAll); assumption; rfl; (go_simp; rfl); (repeat (first | with_reducible exact Out.here _ | apply Out.there)); rfl; (focus (first | (simp [Value.oneCell']; done) | (simp [Value.cells, Value.oneCell']; done))); rfl; intro wr6_1 hsr6_1; simp only [Value.cells] at hsr6_1) | ((with_reducible apply st_store); assumption; rfl; (go_simp; rfl); (repeat (first | with_reducible exact Out.here _ | apply Out.there)); rfl; (first | (focus (simp [Value.oneCell']; done)) | (simp [Value.cells, Value.oneCell'])); (first | (focus (simp; done)) | (simp [Value.cells])); intro wr6_1 hsr6_1; simp only [upd, Value.cells] at hsr6_1))
        refine hKp.out _ _ ?_
        clear hKp Kp
        (try dsimp only [Act.put])
        refine pl_done ?_
        refine hK7.out _ _ ?_
        (try clear hK7 K7)
        refine wp_ret ?_
        ((try simp only [Exit.inBlock, Exit.then]); refine retC1 rfl rfl (by assumption) (by (repeat (first | exact Out.here _ | apply Out.there))) (by simp) rfl rfl ?_)
        refine ⟨_, _, _, _, _, _, ys, by rw [hym, List.take_length], rfl, (by assumption : Sat w0 _ _).pick (by (repeat (first | exact Pick.nil _ | exact Pick.tail _ | exact Out.here _ | apply Out.there | apply Pick.cons | apply Pick.drop)))⟩
end Go.Proofs.Ytcedbmcnjckajaa
