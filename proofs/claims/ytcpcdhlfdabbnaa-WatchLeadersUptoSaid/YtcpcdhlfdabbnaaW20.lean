/-
  WatchLeaders: the walk; a list of servers, opened.
-/
import Derived.Test.YtcpcdhlfdabbnaaW19
import Derived.Test.YtcpcdhlfdabbnaaW16
namespace Go.Proofs.Ytcpcdhlfdabbnaa
open Go Go.RowKit Sl Go.Shelf Go.Deep
set_option maxHeartbeats 20000000
set_option maxRecDepth 8000

structure SeenF where
  id : Int
  tm : Int
  cm : Int
  ld : Bool
  b : Int
  t : Int
  l : List Ent

def SeenF.sn (x : SeenF) : Sn := ⟨x.id, x.tm, x.ld⟩
def seenRow (x : SeenF) (A : Option Addr) (n c : Nat) : List Value := [.int .i64 x.id, .int .i64 x.tm, .int .i64 x.cm, .bool x.ld, .int .i64 x.b, .int .i64 x.t, .slice A n c]
def SeenV : IsV SeenF := fun R cs x => (∃ A c, cs = seenRow x A x.l.length c ∧ SlV EntV 4 R [.slice A x.l.length c] x.l) ∧ In64 x.id ∧ In64 x.tm
theorem SeenV.mono : IsV.Mono SeenV := fun _ _ h _ _ ⟨⟨A, c, e, hr⟩, h2⟩ => ⟨⟨A, c, e, SlV.mono EntV.mono _ _ h _ _ hr⟩, h2⟩

theorem flatten_row {sz : Nat} : ∀ {l : List (List Value)} {i : Nat} {r : List Value}, (∀ r ∈ l, r.length = sz) → l[i]? = some r → (l.flatten.drop (i * sz)).take sz = r
  | [], _, _, _, h => by simp at h
  | x :: l, 0, r, hl, h => by
    simp at h; subst h
    have := hl x (by simp)
    rw [List.flatten_cons, Nat.zero_mul, List.drop_zero, List.take_append_of_le_length (by omega), List.take_of_length_le (by omega)]
  | x :: l, i + 1, r, hl, h => by
    have h' : l[i]? = some r := by simpa using h
    have := hl x (by simp)
    rw [List.flatten_cons, show (i + 1) * sz = sz + i * sz from by rw [Nat.add_mul, Nat.one_mul]; omega, ← List.drop_drop, show (x ++ l.flatten).drop sz = l.flatten from by rw [← this]; exact List.drop_left]
    exact flatten_row (fun r hr => hl r (by simp [hr])) h'

theorem flatten_len {sz : Nat} : ∀ {l : List (List Value)}, (∀ r ∈ l, r.length = sz) → l.flatten.length = l.length * sz
  | [], _ => by simp
  | x :: l, hl => by
    rw [List.flatten_cons, List.length_append, flatten_len (fun r hr => hl r (by simp [hr])), hl x (by simp), List.length_cons, Nat.add_mul, Nat.one_mul]; omega

abbrev SRow := SeenF × Option Addr × Nat × Nat
def seenCells (zs : List SRow) : List Value := (zs.map fun z => seenRow z.1 z.2.1 z.2.2.1 z.2.2.2).flatten

theorem seenCells_snoc (zs : List SRow) (z : SRow) : seenCells (zs ++ [z]) = seenCells zs ++ seenRow z.1 z.2.1 z.2.2.1 z.2.2.2 := by simp [seenCells]

theorem seens_sn {w0 : World} {L : List HP} {A : Option Addr} {c n : Nat} {xs : List SeenF} (hE : SlV SeenV 7 (Rd w0 L) [.slice A n c] xs) (hn : (xs.map SeenF.sn).length = n) : SlV SnV 7 (Rd w0 L) [.slice A n c] (xs.map SeenF.sn) := by
  obtain ⟨A', c', vs, e, hr, hl, hx⟩ := hE
  simp only [List.cons.injEq, Value.slice.injEq, and_true] at e
  obtain ⟨rfl, _, rfl⟩ := e
  refine ⟨A, c, vs, by rw [hn], by rw [List.length_map]; exact hr, by rw [List.length_map]; exact hl, fun i x hi => ?_⟩
  rw [List.getElem?_map] at hi
  cases hq : xs[i]? with
  | none => rw [hq] at hi; cases hi
  | some y =>
    rw [hq] at hi; cases hi
    obtain ⟨⟨B, d, h1, _⟩, h2⟩ := hx i y hq
    exact ⟨⟨y.cm, y.b, y.t, B, _, d, h1⟩, h2⟩

theorem rows_sn {w0 : World} {L : List HP} {A : Option Addr} {c n : Nat} {xs : List SeenF} {zs : List SRow} (hz : zs.map (·.1) = xs) (h64 : ∀ x ∈ xs, In64 x.id ∧ In64 x.tm) (hn : (xs.map SeenF.sn).length = n) (hr : Rd w0 L A n 7 (seenCells zs)) : SlV SnV 7 (Rd w0 L) [.slice A n c] (xs.map SeenF.sn) := by
  subst hz
  have hl : ∀ r ∈ zs.map (fun z => seenRow z.1 z.2.1 z.2.2.1 z.2.2.2), r.length = 7 := by
    intro r hr; obtain ⟨z, _, rfl⟩ := List.mem_map.1 hr; rfl
  refine ⟨A, c, seenCells zs, by rw [hn], by rw [hn]; exact hr, by unfold seenCells; rw [flatten_len hl]; simp, fun i x hi => ?_⟩
  simp only [List.map_map, List.getElem?_map] at hi
  cases hq : zs[i]? with
  | none => rw [hq] at hi; cases hi
  | some z =>
    rw [hq] at hi; cases hi
    refine ⟨⟨z.1.cm, z.1.b, z.1.t, z.2.1, z.2.2.1, z.2.2.2, ?_⟩, h64 z.1 (List.mem_map_of_mem (List.mem_of_getElem? hq))⟩
    exact flatten_row hl (by rw [List.getElem?_map, hq]; rfl)

theorem watchLeaders_walk {w0 w : World} {L : List HP} {A : Option Addr} {c : Nat} (xs : List SeenF) (hl : xs.length ≤ 1048576) (hb : ∀ x ∈ xs, x.l.length ≤ 1048576 ∧ ∀ e ∈ x.l, e.d.length ≤ 1048576) (hs : Sat w0 w L)
    (hE : SlV SeenV 7 (Rd w0 L) [.slice A xs.length c] xs) :
    Calls Try.prog 3 #[.slice A xs.length c] w (RetB w0 L true) := by
  have hlen : (xs.map SeenF.sn).length = xs.length := by simp
  have hW := fun (w : World) (L' : List HP) (A : Option Addr) (c : Nat) (hs : Sat w0 w L') (h1 : SlV SnV 7 (Rd w0 L') [.slice A xs.length c] (xs.map SeenF.sn)) => leadersW_spec (c := c) (A := A) (xs.map SeenF.sn) (by rw [hlen]; exact hl) hs (by rw [hlen]; exact h1)
  have hR := fun (w : World) (L' : List HP) (A : Option Addr) (c : Nat) (hs : Sat w0 w L') (h1 : SlV SnV 7 (Rd w0 L') [.slice A xs.length c] (xs.map SeenF.sn)) => leadersR_spec (c := c) (A := A) (xs.map SeenF.sn) (by rw [hlen]; exact hl) hs (by rw [hlen]; exact h1)
  have hES := seens_sn hE hlen
  have hrows := fun (L' : List HP) (A : Option Addr) (c : Nat) (zs : List SRow) (hz : zs.map (·.1) = xs) (h64 : ∀ x ∈ xs, In64 x.id ∧ In64 x.tm) (hr : Rd w0 L' A xs.length 7 (seenCells zs)) => rows_sn (c := c) (A := A) hz h64 hlen hr
  rw [hlen] at hW hR
  obtain ⟨sl, hsl⟩ : ∃ sl, xs.map SeenF.sn = sl := ⟨_, rfl⟩
  rw [hsl] at hW hR hES hrows
  clear hsl hlen
  obtain ⟨A', ca', vs, he1, hRv, hvl, hel⟩ := hE
  simp only [List.cons.injEq, Value.slice.injEq, and_true, true_and] at he1
  obtain ⟨rfl, rfl⟩ := he1
  have h64 : ∀ x ∈ xs, In64 x.id ∧ In64 x.tm := fun x hx => by
    obtain ⟨k, hk⟩ := List.mem_iff_getElem?.1 hx
    exact (hel k x hk).2
  go_enter Try.func3, Try.ntmps3
  have hsA0 := hs.own_nil 28 7
  refine wk_seq (fun K0 hK0 => ?_)
  refine wk_reg ?_
  refine pl_take (v := .bool false) rfl ?_ ?_
  · (go_simp; first | done | with_reducible rfl | rfl | omega | assumption | (simp; omega))
  (try simp only [Act.put, aP, aZ, aS])
  refine pl_done ?_
  refine hK0.out _ _ ?_
  (try clear hK0 K0)
  refine wk_seq (fun K1 hK1 => ?_)
  refine wk_reg ?_
  refine pl_take (v := ?_) rfl ?_ ?_
  rotate_left
  · (go_simp; first | done | with_reducible rfl | rfl | omega | assumption | (simp; omega))
  (try simp only [Act.put, aP, aZ, aS])
  refine pl_done ?_
  refine hK1.out _ _ ?_
  (try clear hK1 K1)
  refine wk_seq (fun K2 hK2 => ?_)
  refine wk_seq (fun K3 hK3 => ?_)
  refine wk_reg ?_
  refine pl_take (v := ?_) rfl ?_ ?_
  rotate_left
  · (go_simp; first | done | with_reducible rfl | rfl | omega | assumption | (simp; omega))
  (try simp only [Act.put, aP, aZ, aS])
  refine pl_done ?_
  refine hK3.out _ _ ?_
  (try clear hK3 K3)
  refine wp_block ?_
  -- at a loop
  go_loopw [3, 4] (fun s3 i wr => ∃ (k : Nat) (X : Option Addr) (cx : Nat) (zs : List SRow), s3 = .slice X k cx ∧ i = .int .i64 k ∧ k ≤ xs.length ∧ zs.map (·.1) = xs.take k ∧ Sat w0 wr (own 28 7 X cx k (seenCells zs) :: L)) (fun _ i _ => xs.length - (intOf i).toNat)
  case atStart => exact ⟨0, none, 0, [], rfl, rfl, Nat.zero_le _, by simp, hsA0.pick (by (repeat (first | exact Pick.nil _ | exact Pick.tail _ | exact Out.here _ | apply Out.there | apply Pick.cons | apply Pick.drop)))⟩
  case round =>
    clear hsA0
    obtain ⟨k, X, cx, zs, rfl, rfl, hk, hz, hsC⟩ := hrel
    by_cases hlt : k < xs.length
    · obtain ⟨x, hx⟩ : ∃ x, xs[k]? = some x := ⟨xs[k], List.getElem?_eq_getElem hlt⟩
      obtain ⟨⟨Ax, ax, ex, hEx⟩, _⟩ := hel k x hx
      obtain ⟨ga, oa, rfl⟩ := hRv.some_of hs (by omega)
      have hrow := hRv.row_at k hlt
      rw [ex] at hrow
      obtain ⟨hxl, hxd⟩ := hb x (List.mem_of_getElem? hx)
      have Hx := Hid.mk' hx
      have Hz := Hid.mk' hz
      obtain ⟨id, tm, cm, ld, b, t, l⟩ := x
      simp only [seenRow] at hrow hEx hxl hxd
      have i0 : (0 : Int) ≤ (k : Int) := by omega
      have i1 : (k : Int) < (xs.length : Int) := by omega
      have hwk : IntKind.i64.wrap ((k : Int) + 1) = (k : Int) + 1 := IntWalk.i64_in _ (by omega)
      clear ex hel hx hz hrows
      refine wk_seq (fun K4 hK4 => ?_)
      refine wk_seq (fun K5 hK5 => ?_)
      refine wk_reg ?_
      iterate 3 (refine pl_take (v := ?_) rfl ?_ ?_; rotate_left; (· (go_simp; first | done | with_reducible rfl | rfl | omega | assumption | (simp; omega))); (try simp only [Act.put, aP, aZ, aS]))
      refine pl_take (v := .bool true) rfl ?_ ?_
      · (go_simp; first | done | with_reducible rfl | rfl | omega | assumption | (simp; omega))
      (try simp only [Act.put, aP, aZ, aS])
      refine pl_done ?_
      refine hK5.out _ _ ?_
      (try clear hK5 K5)
      refine wp_cond_true rfl ?_
      refine wp_skip ?_
      refine hK4.out _ _ ?_
      (try clear hK4 K4)
      refine wk_seq (fun K6 hK6 => ?_)
      refine wp_block ?_
      refine wk_reg ?_
      iterate 5 (refine pl_take (v := ?_) rfl ?_ ?_; rotate_left; (· (first | (first | ((with_reducible apply yl_loadAgg); assumption; rfl; (repeat (first | with_reducible exact Out.here _ | apply Out.there)); (simp); rfl; rfl) | ((with_reducible apply yl_loadAggR); assumption; rfl; (repeat (first | with_reducible assumption | with_reducible exact Rd.own | with_reducible exact Rd.nil | with_reducible apply Rd.cons)); rfl)) | (go_simp; first | done | with_reducible rfl | rfl | omega | assumption | (simp; omega)))); (try simp only [Act.put, aP, aZ, aS]))
      refine pl_eff rfl (fun Kp hKp => ?_)
      go_simp
      (refine (seen_spec id tm cm ld b t l hxl hxd (by assumption) ((SlV.mono EntV.mono).pick (by (repeat (first | exact Pick.nil _ | exact Pick.tail _ | exact Out.here _ | apply Out.there | apply Pick.cons | apply Pick.drop))) hEx)).mono ?_; rintro e16 w16 ⟨A16, c16, ys, hys, rfl, hs16⟩)
      (try go_wp2_with fail)
      refine hKp.out _ _ ?_
      clear hKp Kp
      (try simp only [Act.put, aP, aZ, aS])
      refine pl_eff rfl (fun Kp hKp => ?_)
      ((with_reducible apply st_buildOne (sz := 7)); assumption; (go_simp; rfl); rfl; omega; omega; intro b17 w17 hs17; simp only [Value.cells] at hs17)
      refine hKp.out _ _ ?_
      clear hKp Kp
      (try simp only [Act.put, aP, aZ, aS])
      refine pl_eff rfl (fun Kp hKp => ?_)
      ((with_reducible apply st_append); go_must (assumption; rfl; rfl; (repeat (first | with_reducible exact Out.here _ | apply Out.there)); (repeat (first | with_reducible assumption | with_reducible exact Rd.own | with_reducible exact Rd.nil | with_reducible apply Rd.cons)); (first | exact B8_one _ | exact I8_one _ | (simp [Value.oneCell'])); (first | omega | (simp only [maxLen]; omega)); omega; intro A18 c18 w18 hs18 hc18; (try ((refine hs18.own_elim ?_ ?_); omega; rintro g18 rfl)); try simp only [Nat.zero_add, List.nil_append] at hs18 hc18))
      refine hKp.out _ _ ?_
      clear hKp Kp
      (try simp only [Act.put, aP, aZ, aS])
      refine pl_take (v := ?_) rfl ?_ ?_
      rotate_left
      · (go_simp; first | done | with_reducible rfl | rfl | omega | assumption | (simp; omega))
      (try simp only [Act.put, aP, aZ, aS])
      refine pl_done ?_
      refine hK6.out _ _ ?_
      (try clear hK6 K6)
      refine wk_reg ?_
      iterate 3 (refine pl_take (v := ?_) rfl ?_ ?_; rotate_left; (· (go_simp; first | done | with_reducible rfl | rfl | omega | assumption | (simp; omega))); (try simp only [Act.put, aP, aZ, aS]))
      refine pl_done ?_
      dsimp only [Exit.then]
      go_roundw
      case rel => (refine ⟨k + 1, some ⟨g18, 0, none⟩, c18, zs ++ [(⟨id, tm, cm, ld, b, t, l⟩, A16, l.length, c16)], by go_num, by go_num, by omega, by rw [List.map_append, Hz.out, List.map_singleton, take_snoc Hx.out], ?_⟩; rw [seenCells_snoc]; exact (by assumption : Sat w0 _ _).pick (by simp only [seenRow]; (repeat (first | exact Pick.nil _ | exact Pick.tail _ | exact Out.here _ | apply Out.there | apply Pick.cons | apply Pick.drop))))
      case measure => simp [intOf]; omega
    · obtain rfl : k = xs.length := by omega
      rw [List.take_length] at hz
      have hRS := fun c => hrows (own 28 7 X cx xs.length (seenCells zs) :: L) X c zs hz h64 Rd.own
      clear hrows hel
      refine wk_seq (fun K4 hK4 => ?_)
      refine wk_seq (fun K5 hK5 => ?_)
      refine wk_reg ?_
      iterate 3 (refine pl_take (v := ?_) rfl ?_ ?_; rotate_left; (· (go_simp; first | done | with_reducible rfl | rfl | omega | assumption | (simp; omega))); (try simp only [Act.put, aP, aZ, aS]))
      refine pl_take (v := .bool false) rfl ?_ ?_
      · (go_simp; first | done | with_reducible rfl | rfl | omega | assumption | (simp; omega))
      (try simp only [Act.put, aP, aZ, aS])
      refine pl_done ?_
      refine hK5.out _ _ ?_
      (try clear hK5 K5)
      refine wp_cond_false rfl ?_
      refine wp_exit ?_
      refine hK2.out _ _ ?_
      (try clear hK2 K2)
      refine wk_seq (fun K7 hK7 => ?_)
      refine wk_reg ?_
      refine pl_take (v := ?_) rfl ?_ ?_
      rotate_left
      · (go_simp; first | done | with_reducible rfl | rfl | omega | assumption | (simp; omega))
      (try simp only [Act.put, aP, aZ, aS])
      refine pl_eff rfl (fun Kp hKp => ?_)
      go_simp
      (refine (hW _ _ _ _ (by assumption) (SnV.slpick (by (repeat (first | exact Pick.nil _ | exact Pick.tail _ | exact Out.here _ | apply Out.there | apply Pick.cons | apply Pick.drop))) (hRS _))).mono ?_; rintro e20 w20 ⟨r1, rfl, hf1, hs20⟩)
      (try go_wp2_with fail)
      refine hKp.out _ _ ?_
      clear hKp Kp
      (try simp only [Act.put, aP, aZ, aS])
      refine pl_take (v := ?_) rfl ?_ ?_
      rotate_left
      · (go_simp; first | done | with_reducible rfl | rfl | omega | assumption | (simp; omega))
      (try simp only [Act.put, aP, aZ, aS])
      refine pl_eff rfl (fun Kp hKp => ?_)
      go_simp
      (refine (hR _ _ _ _ (by assumption) (SnV.slpick (by (repeat (first | exact Pick.nil _ | exact Pick.tail _ | exact Out.here _ | apply Out.there | apply Pick.cons | apply Pick.drop))) hES)).mono ?_; rintro e22 w22 ⟨r2, rfl, hf2, hs22⟩; obtain rfl := hf1.one hf2)
      (try go_wp2_with fail)
      refine hKp.out _ _ ?_
      clear hKp Kp
      (try simp only [Act.put, aP, aZ, aS])
      iterate 2 (refine pl_take (v := .bool true) rfl ?_ ?_; (· (go_simp; first | done | with_reducible rfl | rfl | omega | assumption | (simp; omega))); (try simp only [Act.put, aP, aZ, aS]))
      refine pl_eff (by kernel_rfl) (fun Kp hKp => ?_)
      go_simp
      (refine (knows20_spec (by assumption)).mono ?_; rintro e25 w25 ⟨rfl, hs25⟩)
      (try go_wp2_with fail)
      refine hKp.out _ _ ?_
      clear hKp Kp
      (try simp only [Act.put, aP, aZ, aS])
      iterate 2 (refine pl_take (v := .bool true) rfl ?_ ?_; (· (go_simp; first | done | with_reducible rfl | rfl | omega | assumption | (simp; omega))); (try simp only [Act.put, aP, aZ, aS]))
      refine pl_done ?_
      refine hK7.out _ _ ?_
      (try clear hK7 K7)
      refine wp_ret ?_
      go_ret
      exact ⟨rfl, (by assumption : Sat w0 _ _).pick (by (repeat (first | exact Pick.nil _ | exact Pick.tail _ | exact Out.here _ | apply Out.there | apply Pick.cons | apply Pick.drop)))⟩

def maxD : List Ent → Nat
  | [] => 0
  | e :: l => max e.d.length (maxD l)
theorem le_maxD : ∀ {l : List Ent}, ∀ e ∈ l, e.d.length ≤ maxD l
  | [], e, h => by cases h
  | x :: l, e, h => by
    unfold maxD
    rcases List.mem_cons.1 h with rfl | h
    · omega
    · have := le_maxD e h; omega
theorem maxD_le {n : Nat} : ∀ {l : List Ent}, (∀ e ∈ l, e.d.length ≤ n) → maxD l ≤ n
  | [], _ => Nat.zero_le _
  | x :: l, h => by
    unfold maxD
    have := h x (by simp)
    have := maxD_le (fun e he => h e (by simp [he])) (l := l)
    omega

section
variable {H : Type} {enc : TypeId × Value → H} {W : World}
theorem open_seens {fuel : Nat} {cs : List Value} {x : DataW H × List MemPlace} (h : DataW.trod enc Try.prog W 0 (fun _ => true) true fuel 22 cs = some x) :
    ∃ xs : List SeenF, SlV SeenV 7 (Reads W) cs xs ∧ xs.length ≤ Rows.uptoBulk x.1 ∧ ∀ y ∈ xs, y.l.length ≤ Rows.uptoBulk x.1 ∧ ∀ e ∈ y.l, e.d.length ≤ Rows.uptoBulk x.1 := by
  obtain ⟨xs, h1, h2, h3⟩ := open_slV (f := SeenV) (wt := fun y => max y.l.length (maxD y.l)) (sz := 7) Try.underlying22 (by kernel_rfl) (by omega) (fun _ _ _ h => by
    obtain ⟨id, tm, cm, ld, b, t, l, A, ca, rfl, h1, h2, h3, h4, h5⟩ := open_seen64 h
    refine ⟨⟨id, tm, cm, ld, b, t, l⟩, ⟨⟨A, ca, rfl, h1⟩, h2, h3⟩, ?_⟩
    have := maxD_le h5
    simp only; omega) h
  refine ⟨xs, h1, by omega, fun y hy => ?_⟩
  have h4 : max y.l.length (maxD y.l) ≤ (xs.map fun y => max y.l.length (maxD y.l)).sum := by
    clear h1 h2 h3
    induction xs with
    | nil => cases hy
    | cons z xs ih =>
      simp only [List.map_cons, List.sum_cons]
      rcases List.mem_cons.1 hy with rfl | hy
      · omega
      · have := ih hy; omega
  refine ⟨by omega, fun e he => ?_⟩
  have := le_maxD e he; omega
end
end Go.Proofs.Ytcpcdhlfdabbnaa
