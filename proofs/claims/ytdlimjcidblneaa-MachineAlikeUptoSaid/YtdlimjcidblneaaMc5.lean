/-
  The machine: a record of a session's.
-/
import Derived.Test.YtdlimjcidblneaaMc4
namespace Go.Proofs.Ytdlimjcidblneaa
open Go Go.RowKit Sl Go.Shelf
set_option maxHeartbeats 20000000
set_option maxRecDepth 8000

theorem mp_keys {κ : Type} {kv : κ → Value} {ok : κ → Prop} {w0 w : World} {L : List HP} {b : Nat} {l : List (κ × Value)} (hs : Sat w0 w (mp kv ok b l :: L)) : (l.map (·.1)).Nodup ∧ ∀ p ∈ l, ok p.1 := by
  obtain ⟨es, clock, _, _, h1, h2, h3⟩ := hs.mp_inv
  exact ⟨mp_nodup h1 h2, h3⟩

theorem bag_set {w0 w : World} {L M : List HP} {i : Nat} {p q : HP} (hi : M[i]? = some p) (hs : Sat w0 w (q :: SatH (M.eraseIdx i) :: L)) : Sat w0 w (SatH (M.set i q) :: L) := by
  have hlt := (List.getElem?_eq_some_iff.1 hi).1
  refine Sat.bag_put (i := i) (p := q) ?_ ?_
  · rw [List.getElem?_set_self hlt]
  · rw [List.eraseIdx_set_eq]; exact hs

def Mc.seAt (M : Mc) (id : Int) : Option Se := (M.ss.find? fun x => decide (x.1 = id)).map (·.2)
def Mc.setSe (M : Mc) (id : Int) (s : Se) : Mc := { M with ss := M.ss.map fun x => if x.1 = id then (id, s) else x }
/-- A record: what is told, and what becomes of the machine. -/
def Mc.put (M : Mc) (id q : Int) (d : List UInt8) : (Int × Int) × Mc :=
  match M.seAt id with
  | none => ((40, 0), M)
  | some s =>
    if q < s.q then ((41, 0), M.setSe id { s with t := M.ap })
    else if s.q < q then ((0, M.st + M.l.length), { M.setSe id { s with t := M.ap, q := q, n := M.st + M.l.length } with l := M.l ++ [d] })
    else ((0, s.n), M.setSe id { s with t := M.ap })

theorem seStrip_set {bs : List SesRow} {j : Nat} {id : Int} {b : Nat} {s s' : Se} {M : Mc} (hM : seStrip bs = M.ss) (hn : (bs.map (·.1)).Nodup) (hj : bs[j]? = some (id, b, s)) : seStrip (bs.set j (id, b, s')) = (M.setSe id s').ss := by
  unfold Mc.setSe
  simp only
  rw [← hM]
  apply List.ext_getElem?
  intro i
  unfold seStrip
  rw [List.getElem?_map, List.getElem?_set, List.getElem?_map, List.getElem?_map]
  have hjl := (List.getElem?_eq_some_iff.1 hj).1
  split
  · rename_i e; subst e; rw [hj]; simp
  · rename_i e
    cases hi : bs[i]? with
    | none => rfl
    | some x =>
      have hne : x.1 ≠ id := fun e2 => by
        have h1 : (bs.map (·.1))[i]? = some id := by rw [List.getElem?_map, hi]; simp [e2]
        have h2 : (bs.map (·.1))[j]? = some id := by rw [List.getElem?_map, hj]; rfl
        exact e (((List.getElem?_inj (List.getElem?_eq_some_iff.1 h1).1 hn).1 (h1.trans h2.symm)).symm)
      simp [hne]

theorem seMap_set {bs : List SesRow} {j : Nat} {id : Int} {b : Nat} {s s' : Se} (hj : bs[j]? = some (id, b, s)) : seMap (bs.set j (id, b, s')) = seMap bs := by
  unfold seMap
  rw [List.map_set]
  apply List.ext_getElem?
  intro i
  rw [List.getElem?_set]
  split
  · rename_i e; subst e; rw [List.getElem?_map, hj]; simp [(List.getElem?_eq_some_iff.1 hj).1]
  · rfl

theorem seMap_keys (bs : List SesRow) : (seMap bs).map (·.1) = bs.map (·.1) := by simp [seMap]

theorem seAt_none {bs : List SesRow} {M : Mc} {id : Int} (hM : seStrip bs = M.ss) (h : ∀ x ∈ bs, x.1 ≠ id) : M.seAt id = none ∧ mget (seMap bs) id = none := by
  constructor
  · unfold Mc.seAt
    rw [← hM, List.find?_eq_none.2 ?_]; · rfl
    intro x hx
    obtain ⟨y, hy, rfl⟩ := List.mem_map.1 hx
    simpa using h y hy
  · exact mget_none fun x hx => by obtain ⟨y, hy, rfl⟩ := List.mem_map.1 hx; exact h y hy

theorem find_one {α : Type} : ∀ {l : List (Int × α)} {x : Int × α}, (l.map (·.1)).Nodup → x ∈ l → l.find? (fun y => decide (y.1 = x.1)) = some x
  | [], _, _, h => by cases h
  | y :: l, x, hn, h => by
    simp only [List.map_cons, List.nodup_cons] at hn
    rcases List.mem_cons.1 h with rfl | h
    · simp
    · have hne : y.1 ≠ x.1 := fun e => hn.1 (List.mem_map.2 ⟨x, h, e.symm⟩)
      rw [List.find?_cons_of_neg (by simpa using hne)]
      exact find_one hn.2 h

theorem seAt_some {bs : List SesRow} {M : Mc} {id : Int} {b : Nat} {s : Se} (hM : seStrip bs = M.ss) (hn : (bs.map (·.1)).Nodup) (h : (id, b, s) ∈ bs) : M.seAt id = some s ∧ mget (seMap bs) id = some (.pointer (some ⟨b, 0, none⟩)) := by
  constructor
  · unfold Mc.seAt
    rw [← hM, find_one (l := seStrip bs) (x := (id, s)) (by simpa [seStrip, List.map_map, Function.comp_def] using hn) (List.mem_map.2 ⟨_, h, rfl⟩)]
    rfl
  · exact mget_some (by rw [seMap_keys]; exact hn) (List.mem_map.2 ⟨_, h, rfl⟩)

theorem putMc_spec {w0 w : World} {L : List HP} {p : Nat} {M : Mc} {D : Option Addr} {dc n : Nat} (id q : Int) (d : List UInt8) (hok : M.Ok) (hid : In64 id) (hll : M.l.length ≤ 1099511627776) (hn : Hid (n = d.length))
    (hs : Sat w0 w (MR p M :: own 5 1 D dc n (B8 d) :: L)) :
    Calls Try.prog 39 #[.pointer (some ⟨p, 0, none⟩), .int .i64 id, .int .i64 q, .slice D n dc] w (fun e w' => e = .returned (.agg #[.int .i64 (M.put id q d).1.1, .int .i64 0, .int .i64 (M.put id q d).1.2]) ∧ Sat w0 w' (MR p (M.put id q d).2 :: L)) := by
  obtain ⟨X, cx, b, ys, bs, hys, hbs, hs1⟩ := MR.opened hs
  clear hs
  obtain ⟨hnd, _⟩ := mp_keys (hs1.pick (T := mp (Value.int .i64) In64 b (seMap bs) :: L) (by (repeat (first | exact Pick.nil _ | exact Pick.tail _ | exact Out.here _ | apply Out.there | apply Pick.cons | apply Pick.drop))))
  rw [seMap_keys] at hnd
  by_cases hf : ∃ x ∈ bs, x.1 = id
  · obtain ⟨⟨id', sb, s⟩, hx, hxi⟩ := hf
    simp only at hxi
    subst hxi
    obtain ⟨hat, hget⟩ := seAt_some hbs hnd hx
    obtain ⟨j, hj⟩ := List.mem_iff_getElem?.1 hx
    have hj' : (seBlks bs)[j]? = some (blk sb (.cells #[.int .i64 s.q, .int .i64 s.n, .int .i64 s.t] 81 (0, 0))) := by unfold seBlks; rw [List.getElem?_map, hj]; rfl
    have hs2 := (hs1.pick (T := SatH (seBlks bs) :: mcBlk p M X cx b :: own 33 1 X cx M.l.length (recCells ys) :: DV (recData ys) :: mp (Value.int .i64) In64 b (seMap bs) :: own 5 1 D dc n (B8 d) :: L) (by (repeat (first | exact Pick.nil _ | exact Pick.tail _ | exact Out.here _ | apply Out.there | apply Pick.cons | apply Pick.drop)))).bag_take hj'
    clear hs1
    obtain ⟨sq, sn, st'⟩ := s
    obtain ⟨P, hP⟩ : ∃ P, M.put id' q d = P := ⟨_, rfl⟩
    have hP2 : P = if q < sq then ((41, 0), M.setSe id' ⟨sq, sn, M.ap⟩) else if sq < q then ((0, M.st + M.l.length), { M.setSe id' ⟨q, M.st + M.l.length, M.ap⟩ with l := M.l ++ [d] }) else ((0, sn), M.setSe id' ⟨sq, sn, M.ap⟩) := by
      rw [← hP]; unfold Mc.put; rw [hat]
    have hback : ∀ (M' : Mc) (s' : Se), M'.ss = (M.setSe id' s').ss → M'.sp = M.sp → M'.ap = M.ap → M'.st = M.st → ∀ (w : World) (X' : Option Addr) (cx' : Nat) (ys' : List RecRow), ys'.map (·.1) = M'.l →
        Sat w0 w (blk sb (.cells #[.int .i64 s'.q, .int .i64 s'.n, .int .i64 s'.t] 81 (0, 0)) :: SatH ((seBlks bs).eraseIdx j) :: mcBlk p M' X' cx' b :: own 33 1 X' cx' M'.l.length (recCells ys') :: DV (recData ys') :: mp (Value.int .i64) In64 b (seMap bs) :: L) → Sat w0 w (MR p M' :: L) := fun M' s' h1 h2 h3 h4 w X' cx' ys' hy hs => by
      have h5 := bag_set hj' hs
      have e1 : (seBlks bs).set j (blk sb (.cells #[.int .i64 s'.q, .int .i64 s'.n, .int .i64 s'.t] 81 (0, 0))) = seBlks (bs.set j (id', sb, s')) := by unfold seBlks; rw [List.map_set]; rfl
      rw [e1] at h5
      refine MR.made (bs := bs.set j (id', sb, s')) hy ?_ (X := X') (cx := cx') (b := b) ?_
      · rw [seStrip_set hbs hnd hj, h1]
      · rw [seMap_set hj]; exact h5.pick (by (repeat (first | exact Pick.nil _ | exact Pick.tail _ | exact Out.here _ | apply Out.there | apply Pick.cons | apply Pick.drop)))
    rw [hP]
    have HP2 := Hid.mk' hP2
    have Hb := Hid.mk' hback
    obtain ⟨⟨hsp1, hsp2⟩, ⟨hap1, hap2⟩, hst, hlen, _⟩ := hok
    have hNx := fun (w : World) (L' : List HP) (hs : Sat w0 w L') (h4 : Cl w0 L' ⟨p, 4, none⟩ (.map (some b))) (h2 : Cl w0 L' ⟨p, 2, none⟩ (.int .i64 M.st)) (h3 : Cl w0 L' ⟨p, 3, none⟩ (.slice X M.l.length cx)) => nextM_spec (p := p) (n := M.l.length) hst (by omega) hs h4 h2 h3
    obtain ⟨sp, ap, st, l, ss⟩ := M
    simp only at hNx hst hlen hll hs2
    clear hP hP2 hback hj' hj hx hbs hnd hat
    obtain rfl := hn.out
    by_cases h1 : q < sq
    · obtain rfl : P = ((41, 0), Mc.setSe ⟨sp, ap, st, l, ss⟩ id' ⟨sq, sn, ap⟩) := by rw [HP2.out, if_pos h1]
      go_enter Try.func39, Try.ntmps39
      refine wk_seq (fun K0 hK0 => ?_)
      refine wk_reg ?_
      refine pl_eff rfl (fun Kp hKp => ?_)
      ((with_reducible apply st_alloc); assumption; intro b8 w8 hs8; simp only [Value.cells] at hs8)
      refine hKp.out _ _ ?_
      clear hKp Kp
      (try simp only [Act.put, aP, aZ, aS])
      refine pl_done ?_
      refine hK0.out _ _ ?_
      (try clear hK0 K0)
      refine wk_seq (fun K1 hK1 => ?_)
      refine wk_reg ?_
      iterate 5 (refine pl_take (v := ?_) rfl ?_ ?_; rotate_left; (· (first | ((with_reducible apply yl_load); assumption; rfl; (repeat (first | with_reducible assumption | ((with_reducible apply Cl.own); exact rfl) | ((with_reducible apply Cl.blkL); exact rfl) | with_reducible apply Cl.cons)); rfl) | (go_simp; first | done | with_reducible rfl | rfl | omega | assumption | (simp; omega)))); (try simp only [Act.put, aP, aZ, aS]))
      refine pl_take (v := (.pointer (some ⟨sb, 0, none⟩))) rfl ?_ ?_
      · ((with_reducible apply yl_lookupV (xk := id') ktInt); assumption; rfl; rfl; (repeat (first | with_reducible exact Out.here _ | apply Out.there)); exact hid; (simp [hget]))
      (try simp only [Act.put, aP, aZ, aS])
      refine pl_take (v := ?_) rfl ?_ ?_
      rotate_left
      · (go_simp; first | done | with_reducible rfl | rfl | omega | assumption | (simp; omega))
      (try simp only [Act.put, aP, aZ, aS])
      refine pl_done ?_
      refine hK1.out _ _ ?_
      (try clear hK1 K1)
      refine wk_seq (fun K2 hK2 => ?_)
      refine wk_seq (fun K3 hK3 => ?_)
      refine wk_reg ?_
      refine pl_take (v := ?_) rfl ?_ ?_
      rotate_left
      · (go_simp; first | done | with_reducible rfl | rfl | omega | assumption | (simp; omega))
      (try simp only [Act.put, aP, aZ, aS])
      refine pl_take (v := .bool false) rfl ?_ ?_
      · (go_simp; first | done | with_reducible rfl | rfl | omega | assumption | (simp; omega))
      (try simp only [Act.put, aP, aZ, aS])
      refine pl_done ?_
      refine hK3.out _ _ ?_
      (try clear hK3 K3)
      refine wp_cond_false rfl ?_
      refine wp_skip ?_
      refine hK2.out _ _ ?_
      (try clear hK2 K2)
      refine wk_seq (fun K5 hK5 => ?_)
      refine wk_reg ?_
      iterate 7 (refine pl_take (v := ?_) rfl ?_ ?_; rotate_left; (· (first | ((with_reducible apply yl_load); assumption; rfl; (repeat (first | with_reducible assumption | ((with_reducible apply Cl.own); exact rfl) | ((with_reducible apply Cl.blkL); exact rfl) | with_reducible apply Cl.cons)); rfl) | (go_simp; first | done | with_reducible rfl | rfl | omega | assumption | (simp; omega)))); (try simp only [Act.put, aP, aZ, aS]))
      refine pl_eff rfl (fun Kp hKp => ?_)
      (first | ((with_reducible apply st_store1); assumption; rfl; (go_simp; rfl); (repeat (first | with_reducible exact Out.here _ | apply Out.there)); rfl; rfl; simp; intro wr4_7 hsr4_7; (try simp only [aP] at hsr4_7); (try simp only [aS] at hsr4_7); (try simp only [aZ] at hsr4_7)) | ((with_reducible apply st_store_own); assumption; rfl; (go_simp; rfl); (repeat (first | with_reducible exact Out.here _ | apply Out.there)); rfl; rfl; omega; intro wr4_7 hsr4_7))
      refine hKp.out _ _ ?_
      clear hKp Kp
      (try dsimp only [Act.put])
      refine pl_done ?_
      refine hK5.out _ _ ?_
      (try clear hK5 K5)
      refine wk_seq (fun K6 hK6 => ?_)
      refine wk_seq (fun K7 hK7 => ?_)
      refine wk_reg ?_
      iterate 5 (refine pl_take (v := ?_) rfl ?_ ?_; rotate_left; (· (first | ((with_reducible apply yl_load); assumption; rfl; (repeat (first | with_reducible assumption | ((with_reducible apply Cl.own); exact rfl) | ((with_reducible apply Cl.blkL); exact rfl) | with_reducible apply Cl.cons)); rfl) | (go_simp; first | done | with_reducible rfl | rfl | omega | assumption | (simp; omega)))); (try simp only [Act.put, aP, aZ, aS]))
      refine pl_take (v := .bool true) rfl ?_ ?_
      · (go_simp; first | done | with_reducible rfl | rfl | omega | assumption | (simp; omega))
      (try simp only [Act.put, aP, aZ, aS])
      refine pl_done ?_
      refine hK7.out _ _ ?_
      (try clear hK7 K7)
      refine wp_cond_true rfl ?_
      refine wk_seq (fun K8 hK8 => ?_)
      refine wk_reg ?_
      refine pl_take (v := ?_) rfl ?_ ?_
      rotate_left
      · (go_simp; first | done | with_reducible rfl | rfl | omega | assumption | (simp; omega))
      (try simp only [Act.put, aP, aZ, aS])
      refine pl_eff rfl (fun Kp hKp => ?_)
      (first | ((with_reducible apply st_storeAll); assumption; rfl; (go_simp; rfl); (repeat (first | with_reducible exact Out.here _ | apply Out.there)); rfl; (focus (first | (simp [Value.oneCell']; done) | (simp [Value.cells, Value.oneCell']; done))); rfl; intro wr6_1 hsr6_1; simp only [Value.cells] at hsr6_1) | ((with_reducible apply st_store); assumption; rfl; (go_simp; rfl); (repeat (first | with_reducible exact Out.here _ | apply Out.there)); rfl; (first | (focus (simp [Value.oneCell']; done)) | (simp [Value.cells, Value.oneCell'])); (first | (focus (simp; done)) | (simp [Value.cells])); intro wr6_1 hsr6_1; simp only [upd, Value.cells] at hsr6_1))
      refine hKp.out _ _ ?_
      clear hKp Kp
      (try dsimp only [Act.put])
      refine pl_done ?_
      refine hK8.out _ _ ?_
      (try clear hK8 K8)
      refine wp_ret ?_
      ((try simp only [Exit.then]); refine retC1 rfl rfl (by assumption) (by (repeat (first | exact Out.here _ | apply Out.there))) (by simp) rfl rfl ?_)
      exact ⟨rfl, Hb.out _ ⟨sq, sn, ap⟩ rfl rfl rfl rfl _ X cx ys hys ((by assumption : Sat w0 _ _).pick (by (repeat (first | exact Pick.nil _ | exact Pick.tail _ | exact Out.here _ | apply Out.there | apply Pick.cons | apply Pick.drop))))⟩
    · by_cases h2 : sq < q
      · obtain rfl : P = ((0, st + l.length), { Mc.setSe ⟨sp, ap, st, l, ss⟩ id' ⟨q, st + l.length, ap⟩ with l := l ++ [d] }) := by rw [HP2.out, if_neg h1, if_pos h2]
        go_enter Try.func39, Try.ntmps39
        refine wk_seq (fun K0 hK0 => ?_)
        refine wk_reg ?_
        refine pl_eff rfl (fun Kp hKp => ?_)
        ((with_reducible apply st_alloc); assumption; intro b8 w8 hs8; simp only [Value.cells] at hs8)
        refine hKp.out _ _ ?_
        clear hKp Kp
        (try simp only [Act.put, aP, aZ, aS])
        refine pl_done ?_
        refine hK0.out _ _ ?_
        (try clear hK0 K0)
        refine wk_seq (fun K1 hK1 => ?_)
        refine wk_reg ?_
        iterate 5 (refine pl_take (v := ?_) rfl ?_ ?_; rotate_left; (· (first | ((with_reducible apply yl_load); assumption; rfl; (repeat (first | with_reducible assumption | ((with_reducible apply Cl.own); exact rfl) | ((with_reducible apply Cl.blkL); exact rfl) | with_reducible apply Cl.cons)); rfl) | (go_simp; first | done | with_reducible rfl | rfl | omega | assumption | (simp; omega)))); (try simp only [Act.put, aP, aZ, aS]))
        refine pl_take (v := (.pointer (some ⟨sb, 0, none⟩))) rfl ?_ ?_
        · ((with_reducible apply yl_lookupV (xk := id') ktInt); assumption; rfl; rfl; (repeat (first | with_reducible exact Out.here _ | apply Out.there)); exact hid; (simp [hget]))
        (try simp only [Act.put, aP, aZ, aS])
        refine pl_take (v := ?_) rfl ?_ ?_
        rotate_left
        · (go_simp; first | done | with_reducible rfl | rfl | omega | assumption | (simp; omega))
        (try simp only [Act.put, aP, aZ, aS])
        refine pl_done ?_
        refine hK1.out _ _ ?_
        (try clear hK1 K1)
        refine wk_seq (fun K2 hK2 => ?_)
        refine wk_seq (fun K3 hK3 => ?_)
        refine wk_reg ?_
        refine pl_take (v := ?_) rfl ?_ ?_
        rotate_left
        · (go_simp; first | done | with_reducible rfl | rfl | omega | assumption | (simp; omega))
        (try simp only [Act.put, aP, aZ, aS])
        refine pl_take (v := .bool false) rfl ?_ ?_
        · (go_simp; first | done | with_reducible rfl | rfl | omega | assumption | (simp; omega))
        (try simp only [Act.put, aP, aZ, aS])
        refine pl_done ?_
        refine hK3.out _ _ ?_
        (try clear hK3 K3)
        refine wp_cond_false rfl ?_
        refine wp_skip ?_
        refine hK2.out _ _ ?_
        (try clear hK2 K2)
        refine wk_seq (fun K5 hK5 => ?_)
        refine wk_reg ?_
        iterate 7 (refine pl_take (v := ?_) rfl ?_ ?_; rotate_left; (· (first | ((with_reducible apply yl_load); assumption; rfl; (repeat (first | with_reducible assumption | ((with_reducible apply Cl.own); exact rfl) | ((with_reducible apply Cl.blkL); exact rfl) | with_reducible apply Cl.cons)); rfl) | (go_simp; first | done | with_reducible rfl | rfl | omega | assumption | (simp; omega)))); (try simp only [Act.put, aP, aZ, aS]))
        refine pl_eff rfl (fun Kp hKp => ?_)
        (first | ((with_reducible apply st_store1); assumption; rfl; (go_simp; rfl); (repeat (first | with_reducible exact Out.here _ | apply Out.there)); rfl; rfl; simp; intro wr4_7 hsr4_7; (try simp only [aP] at hsr4_7); (try simp only [aS] at hsr4_7); (try simp only [aZ] at hsr4_7)) | ((with_reducible apply st_store_own); assumption; rfl; (go_simp; rfl); (repeat (first | with_reducible exact Out.here _ | apply Out.there)); rfl; rfl; omega; intro wr4_7 hsr4_7))
        refine hKp.out _ _ ?_
        clear hKp Kp
        (try dsimp only [Act.put])
        refine pl_done ?_
        refine hK5.out _ _ ?_
        (try clear hK5 K5)
        refine wk_seq (fun K6 hK6 => ?_)
        refine wk_seq (fun K7 hK7 => ?_)
        refine wk_reg ?_
        iterate 5 (refine pl_take (v := ?_) rfl ?_ ?_; rotate_left; (· (first | ((with_reducible apply yl_load); assumption; rfl; (repeat (first | with_reducible assumption | ((with_reducible apply Cl.own); exact rfl) | ((with_reducible apply Cl.blkL); exact rfl) | with_reducible apply Cl.cons)); rfl) | (go_simp; first | done | with_reducible rfl | rfl | omega | assumption | (simp; omega)))); (try simp only [Act.put, aP, aZ, aS]))
        refine pl_take (v := .bool false) rfl ?_ ?_
        · (go_simp; first | done | with_reducible rfl | rfl | omega | assumption | (simp; omega))
        (try simp only [Act.put, aP, aZ, aS])
        refine pl_done ?_
        refine hK7.out _ _ ?_
        (try clear hK7 K7)
        refine wp_cond_false rfl ?_
        refine wp_skip ?_
        refine hK6.out _ _ ?_
        (try clear hK6 K6)
        refine wk_seq (fun K9 hK9 => ?_)
        refine wk_seq (fun K10 hK10 => ?_)
        refine wk_reg ?_
        iterate 5 (refine pl_take (v := ?_) rfl ?_ ?_; rotate_left; (· (first | ((with_reducible apply yl_load); assumption; rfl; (repeat (first | with_reducible assumption | ((with_reducible apply Cl.own); exact rfl) | ((with_reducible apply Cl.blkL); exact rfl) | with_reducible apply Cl.cons)); rfl) | (go_simp; first | done | with_reducible rfl | rfl | omega | assumption | (simp; omega)))); (try simp only [Act.put, aP, aZ, aS]))
        refine pl_take (v := .bool true) rfl ?_ ?_
        · (go_simp; first | done | with_reducible rfl | rfl | omega | assumption | (simp; omega))
        (try simp only [Act.put, aP, aZ, aS])
        refine pl_done ?_
        refine hK10.out _ _ ?_
        (try clear hK10 K10)
        refine wp_cond_true rfl ?_
        refine wk_seq (fun K11 hK11 => ?_)
        refine wk_reg ?_
        iterate 4 (refine pl_take (v := ?_) rfl ?_ ?_; rotate_left; (· (go_simp; first | done | with_reducible rfl | rfl | omega | assumption | (simp; omega))); (try simp only [Act.put, aP, aZ, aS]))
        refine pl_eff rfl (fun Kp hKp => ?_)
        go_simp
        (refine (hNx _ _ (by assumption) (by (repeat (first | with_reducible assumption | ((with_reducible apply Cl.own); exact rfl) | ((with_reducible apply Cl.blkL); exact rfl) | with_reducible apply Cl.cons))) (by (repeat (first | with_reducible assumption | ((with_reducible apply Cl.own); exact rfl) | ((with_reducible apply Cl.blkL); exact rfl) | with_reducible apply Cl.cons))) (by (repeat (first | with_reducible assumption | ((with_reducible apply Cl.own); exact rfl) | ((with_reducible apply Cl.blkL); exact rfl) | with_reducible apply Cl.cons)))).mono ?_; rintro e43 w43 ⟨rfl, hs43⟩)
        (try go_wp2_with fail)
        refine hKp.out _ _ ?_
        clear hKp Kp
        (try simp only [Act.put, aP, aZ, aS])
        iterate 2 (refine pl_take (v := ?_) rfl ?_ ?_; rotate_left; (· (go_simp; first | done | with_reducible rfl | rfl | omega | assumption | (simp; omega))); (try simp only [Act.put, aP, aZ, aS]))
        refine pl_eff rfl (fun Kp hKp => ?_)
        (first | ((with_reducible apply st_store1); assumption; rfl; (go_simp; rfl); (repeat (first | with_reducible exact Out.here _ | apply Out.there)); rfl; rfl; simp; intro wr8_7 hsr8_7; (try simp only [aP] at hsr8_7); (try simp only [aS] at hsr8_7); (try simp only [aZ] at hsr8_7)) | ((with_reducible apply st_store_own); assumption; rfl; (go_simp; rfl); (repeat (first | with_reducible exact Out.here _ | apply Out.there)); rfl; rfl; omega; intro wr8_7 hsr8_7))
        refine hKp.out _ _ ?_
        clear hKp Kp
        (try dsimp only [Act.put])
        iterate 2 (refine pl_take (v := ?_) rfl ?_ ?_; rotate_left; (· (go_simp; first | done | with_reducible rfl | rfl | omega | assumption | (simp; omega))); (try simp only [Act.put, aP, aZ, aS]))
        refine pl_eff rfl (fun Kp hKp => ?_)
        (first | ((with_reducible apply st_store1); assumption; rfl; (go_simp; rfl); (repeat (first | with_reducible exact Out.here _ | apply Out.there)); rfl; rfl; simp; intro wr8_10 hsr8_10; (try simp only [aP] at hsr8_10); (try simp only [aS] at hsr8_10); (try simp only [aZ] at hsr8_10)) | ((with_reducible apply st_store_own); assumption; rfl; (go_simp; rfl); (repeat (first | with_reducible exact Out.here _ | apply Out.there)); rfl; rfl; omega; intro wr8_10 hsr8_10))
        refine hKp.out _ _ ?_
        clear hKp Kp
        (try dsimp only [Act.put])
        refine pl_done ?_
        refine hK11.out _ _ ?_
        (try clear hK11 K11)
        refine wk_reg ?_
        iterate 6 (refine pl_take (v := ?_) rfl ?_ ?_; rotate_left; (· (first | ((with_reducible apply yl_load); assumption; rfl; (repeat (first | with_reducible assumption | ((with_reducible apply Cl.own); exact rfl) | ((with_reducible apply Cl.blkL); exact rfl) | with_reducible apply Cl.cons)); rfl) | (go_simp; first | done | with_reducible rfl | rfl | omega | assumption | (simp; omega)))); (try simp only [Act.put, aP, aZ, aS]))
        refine pl_eff rfl (fun Kp hKp => ?_)
        ((with_reducible apply st_buildSlice); assumption; rfl; (go_simp; rfl); (simp [Value.cells]); omega; intro b54 w54 hs54)
        refine hKp.out _ _ ?_
        clear hKp Kp
        (try simp only [Act.put, aP, aZ, aS])
        refine pl_eff rfl (fun Kp hKp => ?_)
        ((with_reducible apply st_append); go_must (assumption; rfl; rfl; (repeat (first | with_reducible exact Out.here _ | apply Out.there)); (repeat (first | with_reducible assumption | with_reducible exact Rd.own | with_reducible exact Rd.nil | with_reducible apply Rd.cons)); (first | exact B8_one _ | exact I8_one _ | (simp [Value.oneCell'])); (first | omega | (simp only [maxLen]; omega)); omega; intro A55 c55 w55 hs55 hc55; (try ((refine hs55.own_elim ?_ ?_); omega; rintro g55 rfl)); try simp only [Nat.zero_add, List.nil_append] at hs55 hc55))
        refine hKp.out _ _ ?_
        clear hKp Kp
        (try simp only [Act.put, aP, aZ, aS])
        iterate 2 (refine pl_take (v := ?_) rfl ?_ ?_; rotate_left; (· (go_simp; first | done | with_reducible rfl | rfl | omega | assumption | (simp; omega))); (try simp only [Act.put, aP, aZ, aS]))
        refine pl_eff rfl (fun Kp hKp => ?_)
        (first | ((with_reducible apply st_store1); assumption; rfl; (go_simp; rfl); (repeat (first | with_reducible exact Out.here _ | apply Out.there)); rfl; rfl; simp; intro wr9_10 hsr9_10; (try simp only [aP] at hsr9_10); (try simp only [aS] at hsr9_10); (try simp only [aZ] at hsr9_10)) | ((with_reducible apply st_store_own); assumption; rfl; (go_simp; rfl); (repeat (first | with_reducible exact Out.here _ | apply Out.there)); rfl; rfl; omega; intro wr9_10 hsr9_10))
        refine hKp.out _ _ ?_
        clear hKp Kp
        (try dsimp only [Act.put])
        refine pl_done ?_
        refine hK9.out _ _ ?_
        (try clear hK9 K9)
        refine wk_seq (fun K12 hK12 => ?_)
        refine wk_reg ?_
        iterate 5 (refine pl_take (v := ?_) rfl ?_ ?_; rotate_left; (· (first | ((with_reducible apply yl_load); assumption; rfl; (repeat (first | with_reducible assumption | ((with_reducible apply Cl.own); exact rfl) | ((with_reducible apply Cl.blkL); exact rfl) | with_reducible apply Cl.cons)); rfl) | (go_simp; first | done | with_reducible rfl | rfl | omega | assumption | (simp; omega)))); (try simp only [Act.put, aP, aZ, aS]))
        refine pl_eff rfl (fun Kp hKp => ?_)
        (first | ((with_reducible apply st_storeAll); assumption; rfl; (go_simp; rfl); (repeat (first | with_reducible exact Out.here _ | apply Out.there)); rfl; (focus (first | (simp [Value.oneCell']; done) | (simp [Value.cells, Value.oneCell']; done))); rfl; intro wr10_5 hsr10_5; simp only [Value.cells] at hsr10_5) | ((with_reducible apply st_store); assumption; rfl; (go_simp; rfl); (repeat (first | with_reducible exact Out.here _ | apply Out.there)); rfl; (first | (focus (simp [Value.oneCell']; done)) | (simp [Value.cells, Value.oneCell'])); (first | (focus (simp; done)) | (simp [Value.cells])); intro wr10_5 hsr10_5; simp only [upd, Value.cells] at hsr10_5))
        refine hKp.out _ _ ?_
        clear hKp Kp
        (try dsimp only [Act.put])
        refine pl_done ?_
        refine hK12.out _ _ ?_
        (try clear hK12 K12)
        refine wp_ret ?_
        ((try simp only [Exit.then]); refine retC1 rfl rfl (by assumption) (by (repeat (first | exact Out.here _ | apply Out.there))) (by simp) rfl rfl ?_)
        refine ⟨rfl, Hb.out { Mc.setSe ⟨sp, ap, st, l, ss⟩ id' ⟨q, st + l.length, ap⟩ with l := l ++ [d] } ⟨q, st + l.length, ap⟩ rfl rfl rfl rfl _ (some ⟨g55, 0, none⟩) c55 (ys ++ [(d, D, dc)]) (by simp [hys]) ?_⟩
        have hfin := (by assumption : Sat w0 _ _)
        dsimp only [Mc.setSe, mcBlk]
        rw [show recCells (ys ++ [(d, D, dc)]) = recCells ys ++ [.slice D d.length dc] from by simp [recCells], show recData (ys ++ [(d, D, dc)]) = recData ys ++ [(D, d)] from by simp [recData], show (l ++ [d]).length = l.length + 1 from by simp]
        refine Sat.pick (L := DV (recData ys ++ [(D, d)]) :: blk sb _ :: SatH ((seBlks bs).eraseIdx j) :: blk p _ :: own _ 1 _ _ (l.length + 1) _ :: mp (Value.int .i64) In64 b (seMap bs) :: L) ?_ (by (repeat (first | exact Pick.nil _ | exact Pick.tail _ | exact Out.here _ | apply Out.there | apply Pick.cons | apply Pick.drop)))
        refine Sat.dv_snoc (E := 5) (c := dc) ?_
        exact hfin.pick (by (repeat (first | exact Pick.nil _ | exact Pick.tail _ | exact Out.here _ | apply Out.there | apply Pick.cons | apply Pick.drop)))
      · obtain rfl : P = ((0, sn), Mc.setSe ⟨sp, ap, st, l, ss⟩ id' ⟨sq, sn, ap⟩) := by rw [HP2.out, if_neg h1, if_neg h2]
        go_enter Try.func39, Try.ntmps39
        refine wk_seq (fun K0 hK0 => ?_)
        refine wk_reg ?_
        refine pl_eff rfl (fun Kp hKp => ?_)
        ((with_reducible apply st_alloc); assumption; intro b8 w8 hs8; simp only [Value.cells] at hs8)
        refine hKp.out _ _ ?_
        clear hKp Kp
        (try simp only [Act.put, aP, aZ, aS])
        refine pl_done ?_
        refine hK0.out _ _ ?_
        (try clear hK0 K0)
        refine wk_seq (fun K1 hK1 => ?_)
        refine wk_reg ?_
        iterate 5 (refine pl_take (v := ?_) rfl ?_ ?_; rotate_left; (· (first | ((with_reducible apply yl_load); assumption; rfl; (repeat (first | with_reducible assumption | ((with_reducible apply Cl.own); exact rfl) | ((with_reducible apply Cl.blkL); exact rfl) | with_reducible apply Cl.cons)); rfl) | (go_simp; first | done | with_reducible rfl | rfl | omega | assumption | (simp; omega)))); (try simp only [Act.put, aP, aZ, aS]))
        refine pl_take (v := (.pointer (some ⟨sb, 0, none⟩))) rfl ?_ ?_
        · ((with_reducible apply yl_lookupV (xk := id') ktInt); assumption; rfl; rfl; (repeat (first | with_reducible exact Out.here _ | apply Out.there)); exact hid; (simp [hget]))
        (try simp only [Act.put, aP, aZ, aS])
        refine pl_take (v := ?_) rfl ?_ ?_
        rotate_left
        · (go_simp; first | done | with_reducible rfl | rfl | omega | assumption | (simp; omega))
        (try simp only [Act.put, aP, aZ, aS])
        refine pl_done ?_
        refine hK1.out _ _ ?_
        (try clear hK1 K1)
        refine wk_seq (fun K2 hK2 => ?_)
        refine wk_seq (fun K3 hK3 => ?_)
        refine wk_reg ?_
        refine pl_take (v := ?_) rfl ?_ ?_
        rotate_left
        · (go_simp; first | done | with_reducible rfl | rfl | omega | assumption | (simp; omega))
        (try simp only [Act.put, aP, aZ, aS])
        refine pl_take (v := .bool false) rfl ?_ ?_
        · (go_simp; first | done | with_reducible rfl | rfl | omega | assumption | (simp; omega))
        (try simp only [Act.put, aP, aZ, aS])
        refine pl_done ?_
        refine hK3.out _ _ ?_
        (try clear hK3 K3)
        refine wp_cond_false rfl ?_
        refine wp_skip ?_
        refine hK2.out _ _ ?_
        (try clear hK2 K2)
        refine wk_seq (fun K5 hK5 => ?_)
        refine wk_reg ?_
        iterate 7 (refine pl_take (v := ?_) rfl ?_ ?_; rotate_left; (· (first | ((with_reducible apply yl_load); assumption; rfl; (repeat (first | with_reducible assumption | ((with_reducible apply Cl.own); exact rfl) | ((with_reducible apply Cl.blkL); exact rfl) | with_reducible apply Cl.cons)); rfl) | (go_simp; first | done | with_reducible rfl | rfl | omega | assumption | (simp; omega)))); (try simp only [Act.put, aP, aZ, aS]))
        refine pl_eff rfl (fun Kp hKp => ?_)
        (first | ((with_reducible apply st_store1); assumption; rfl; (go_simp; rfl); (repeat (first | with_reducible exact Out.here _ | apply Out.there)); rfl; rfl; simp; intro wr4_7 hsr4_7; (try simp only [aP] at hsr4_7); (try simp only [aS] at hsr4_7); (try simp only [aZ] at hsr4_7)) | ((with_reducible apply st_store_own); assumption; rfl; (go_simp; rfl); (repeat (first | with_reducible exact Out.here _ | apply Out.there)); rfl; rfl; omega; intro wr4_7 hsr4_7))
        refine hKp.out _ _ ?_
        clear hKp Kp
        (try dsimp only [Act.put])
        refine pl_done ?_
        refine hK5.out _ _ ?_
        (try clear hK5 K5)
        refine wk_seq (fun K6 hK6 => ?_)
        refine wk_seq (fun K7 hK7 => ?_)
        refine wk_reg ?_
        iterate 5 (refine pl_take (v := ?_) rfl ?_ ?_; rotate_left; (· (first | ((with_reducible apply yl_load); assumption; rfl; (repeat (first | with_reducible assumption | ((with_reducible apply Cl.own); exact rfl) | ((with_reducible apply Cl.blkL); exact rfl) | with_reducible apply Cl.cons)); rfl) | (go_simp; first | done | with_reducible rfl | rfl | omega | assumption | (simp; omega)))); (try simp only [Act.put, aP, aZ, aS]))
        refine pl_take (v := .bool false) rfl ?_ ?_
        · (go_simp; first | done | with_reducible rfl | rfl | omega | assumption | (simp; omega))
        (try simp only [Act.put, aP, aZ, aS])
        refine pl_done ?_
        refine hK7.out _ _ ?_
        (try clear hK7 K7)
        refine wp_cond_false rfl ?_
        refine wp_skip ?_
        refine hK6.out _ _ ?_
        (try clear hK6 K6)
        refine wk_seq (fun K9 hK9 => ?_)
        refine wk_seq (fun K10 hK10 => ?_)
        refine wk_reg ?_
        iterate 5 (refine pl_take (v := ?_) rfl ?_ ?_; rotate_left; (· (first | ((with_reducible apply yl_load); assumption; rfl; (repeat (first | with_reducible assumption | ((with_reducible apply Cl.own); exact rfl) | ((with_reducible apply Cl.blkL); exact rfl) | with_reducible apply Cl.cons)); rfl) | (go_simp; first | done | with_reducible rfl | rfl | omega | assumption | (simp; omega)))); (try simp only [Act.put, aP, aZ, aS]))
        refine pl_take (v := .bool false) rfl ?_ ?_
        · (go_simp; first | done | with_reducible rfl | rfl | omega | assumption | (simp; omega))
        (try simp only [Act.put, aP, aZ, aS])
        refine pl_done ?_
        refine hK10.out _ _ ?_
        (try clear hK10 K10)
        refine wp_cond_false rfl ?_
        refine wp_skip ?_
        refine hK9.out _ _ ?_
        (try clear hK9 K9)
        refine wk_seq (fun K12 hK12 => ?_)
        refine wk_reg ?_
        iterate 5 (refine pl_take (v := ?_) rfl ?_ ?_; rotate_left; (· (first | ((with_reducible apply yl_load); assumption; rfl; (repeat (first | with_reducible assumption | ((with_reducible apply Cl.own); exact rfl) | ((with_reducible apply Cl.blkL); exact rfl) | with_reducible apply Cl.cons)); rfl) | (go_simp; first | done | with_reducible rfl | rfl | omega | assumption | (simp; omega)))); (try simp only [Act.put, aP, aZ, aS]))
        refine pl_eff rfl (fun Kp hKp => ?_)
        (first | ((with_reducible apply st_storeAll); assumption; rfl; (go_simp; rfl); (repeat (first | with_reducible exact Out.here _ | apply Out.there)); rfl; (focus (first | (simp [Value.oneCell']; done) | (simp [Value.cells, Value.oneCell']; done))); rfl; intro wr10_5 hsr10_5; simp only [Value.cells] at hsr10_5) | ((with_reducible apply st_store); assumption; rfl; (go_simp; rfl); (repeat (first | with_reducible exact Out.here _ | apply Out.there)); rfl; (first | (focus (simp [Value.oneCell']; done)) | (simp [Value.cells, Value.oneCell'])); (first | (focus (simp; done)) | (simp [Value.cells])); intro wr10_5 hsr10_5; simp only [upd, Value.cells] at hsr10_5))
        refine hKp.out _ _ ?_
        clear hKp Kp
        (try dsimp only [Act.put])
        refine pl_done ?_
        refine hK12.out _ _ ?_
        (try clear hK12 K12)
        refine wp_ret ?_
        ((try simp only [Exit.then]); refine retC1 rfl rfl (by assumption) (by (repeat (first | exact Out.here _ | apply Out.there))) (by simp) rfl rfl ?_)
        exact ⟨rfl, Hb.out _ ⟨sq, sn, ap⟩ rfl rfl rfl rfl _ X cx ys hys ((by assumption : Sat w0 _ _).pick (by (repeat (first | exact Pick.nil _ | exact Pick.tail _ | exact Out.here _ | apply Out.there | apply Pick.cons | apply Pick.drop))))⟩
  · obtain ⟨hat, hget⟩ := seAt_none hbs (fun x hx e => hf ⟨x, hx, e⟩)
    have hP : M.put id q d = ((40, 0), M) := by unfold Mc.put; rw [hat]
    rw [hP]
    clear hf hat hP
    go_enter Try.func39, Try.ntmps39
    refine wk_seq (fun K0 hK0 => ?_)
    refine wk_reg ?_
    refine pl_eff rfl (fun Kp hKp => ?_)
    ((with_reducible apply st_alloc); assumption; intro b8 w8 hs8; simp only [Value.cells] at hs8)
    refine hKp.out _ _ ?_
    clear hKp Kp
    (try simp only [Act.put, aP, aZ, aS])
    refine pl_done ?_
    refine hK0.out _ _ ?_
    (try clear hK0 K0)
    refine wk_seq (fun K1 hK1 => ?_)
    refine wk_reg ?_
    iterate 5 (refine pl_take (v := ?_) rfl ?_ ?_; rotate_left; (· (first | ((with_reducible apply yl_load); assumption; rfl; (repeat (first | with_reducible assumption | ((with_reducible apply Cl.own); exact rfl) | ((with_reducible apply Cl.blkL); exact rfl) | with_reducible apply Cl.cons)); rfl) | (go_simp; first | done | with_reducible rfl | rfl | omega | assumption | (simp; omega)))); (try simp only [Act.put, aP, aZ, aS]))
    refine pl_take (v := (.pointer none)) rfl ?_ ?_
    · ((with_reducible apply yl_lookupV (xk := id) ktInt); assumption; rfl; rfl; (repeat (first | with_reducible exact Out.here _ | apply Out.there)); exact hid; (simp [hget]))
    (try simp only [Act.put, aP, aZ, aS])
    refine pl_take (v := ?_) rfl ?_ ?_
    rotate_left
    · (go_simp; first | done | with_reducible rfl | rfl | omega | assumption | (simp; omega))
    (try simp only [Act.put, aP, aZ, aS])
    refine pl_done ?_
    refine hK1.out _ _ ?_
    (try clear hK1 K1)
    refine wk_seq (fun K2 hK2 => ?_)
    refine wk_seq (fun K3 hK3 => ?_)
    refine wk_reg ?_
    refine pl_take (v := ?_) rfl ?_ ?_
    rotate_left
    · (go_simp; first | done | with_reducible rfl | rfl | omega | assumption | (simp; omega))
    (try simp only [Act.put, aP, aZ, aS])
    refine pl_take (v := .bool true) rfl ?_ ?_
    · (go_simp; first | done | with_reducible rfl | rfl | omega | assumption | (simp; omega))
    (try simp only [Act.put, aP, aZ, aS])
    refine pl_done ?_
    refine hK3.out _ _ ?_
    (try clear hK3 K3)
    refine wp_cond_true rfl ?_
    refine wk_seq (fun K4 hK4 => ?_)
    refine wk_reg ?_
    refine pl_take (v := ?_) rfl ?_ ?_
    rotate_left
    · (go_simp; first | done | with_reducible rfl | rfl | omega | assumption | (simp; omega))
    (try simp only [Act.put, aP, aZ, aS])
    refine pl_eff rfl (fun Kp hKp => ?_)
    (first | ((with_reducible apply st_storeAll); assumption; rfl; (go_simp; rfl); (repeat (first | with_reducible exact Out.here _ | apply Out.there)); rfl; (focus (first | (simp [Value.oneCell']; done) | (simp [Value.cells, Value.oneCell']; done))); rfl; intro wr3_1 hsr3_1; simp only [Value.cells] at hsr3_1) | ((with_reducible apply st_store); assumption; rfl; (go_simp; rfl); (repeat (first | with_reducible exact Out.here _ | apply Out.there)); rfl; (first | (focus (simp [Value.oneCell']; done)) | (simp [Value.cells, Value.oneCell'])); (first | (focus (simp; done)) | (simp [Value.cells])); intro wr3_1 hsr3_1; simp only [upd, Value.cells] at hsr3_1))
    refine hKp.out _ _ ?_
    clear hKp Kp
    (try dsimp only [Act.put])
    refine pl_done ?_
    refine hK4.out _ _ ?_
    (try clear hK4 K4)
    refine wp_ret ?_
    ((try simp only [Exit.then]); refine retC1 rfl rfl (by assumption) (by (repeat (first | exact Out.here _ | apply Out.there))) (by simp) rfl rfl ?_)
    exact ⟨rfl, MR.made hys hbs ((by assumption : Sat w0 _ _).pick (by (repeat (first | exact Pick.nil _ | exact Pick.tail _ | exact Out.here _ | apply Out.there | apply Pick.cons | apply Pick.drop))))⟩
end Go.Proofs.Ytdlimjcidblneaa
