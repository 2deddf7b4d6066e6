/-
  Messages: the plain law of Get, step by step; what Get's frame leaves.
-/
import Derived.Test.YtcedbmcnjckajaaMsg9
namespace Go.Proofs.Ytcedbmcnjckajaa
open Go Go.RowKit Sl Go.Shelf
set_option maxHeartbeats 1000000
set_option maxRecDepth 8000

/-- What comes of a message that was read to its end. -/
def finish (m : Msg) (e : Int) (r : List UInt8) : Msg × Int := if rdEnd e r = 0 ∧ rightM m = true then (m, 0) else (zeroMsg, 21)

section
variable {b r9 : List UInt8} {n1 n2 n3 n4 n5 n6 n7 n8 n9 e9 : Int}

theorem getMsg_yes (h : rdMany 9 0 b = ([n1, n2, n3, n4, n5, n6, n7, n8, n9], e9, r9)) (h9 : ¬ n9 ≤ 1) : getMsg b = (zeroMsg, 21) := by
  unfold getMsg
  rw [if_neg]
  rintro ⟨h1, _⟩
  unfold rdMsg at h1
  rw [h] at h1
  simp only [msgOf, List.getD_cons_zero, List.getD_cons_succ] at h1
  split at h1
  · simp [h9] at h1
  · split at h1
    · simp [h9] at h1
    · simp [h9] at h1

theorem getMsg_three (h : rdMany 9 0 b = ([n1, n2, n3, n4, n5, n6, n7, n8, n9], e9, r9)) (h9 : n9 ≤ 1) (h3 : n1 = 3) {n en ez : Int} {rn rz : List UInt8} {zs : List (Ent × Int)} (hn : rdNumber e9 r9 = (n, en, rn)) (hz : rdEnts (min n.toNat 9) en rn = (zs, ez, rz)) :
    getMsg b = if zs.all (fun y => y.2 == 0) = true then finish ⟨n1, n2, n3, n4, n5, n6, n7, n8, n9 == 1, zs.map (·.1), [], []⟩ ez rz else (zeroMsg, 21) := by
  unfold getMsg rdMsg
  rw [h]
  simp only [msgOf, List.getD_cons_zero, List.getD_cons_succ, if_pos h3, hn, hz]
  unfold finish
  by_cases ha : zs.all (fun y => y.2 == 0) = true
  · rw [if_pos ha]; simp only [ha, h9, decide_true, Bool.and_self, true_and]
  · rw [if_neg ha, if_neg]; rintro ⟨h1, _⟩; rw [Bool.and_eq_true] at h1; exact ha h1.2

theorem getMsg_many (h : rdMany 9 0 b = ([n1, n2, n3, n4, n5, n6, n7, n8, n9], e9, r9)) (h9 : n9 ≤ 1) (h3 : n1 = 3) {n en : Int} {rn : List UInt8} (hn : rdNumber e9 r9 = (n, en, rn)) (h8 : ¬ n ≤ 8) : getMsg b = (zeroMsg, 21) := by
  obtain ⟨⟨zs, ez, rz⟩, hz⟩ : ∃ x, rdEnts (min n.toNat 9) en rn = x := ⟨_, rfl⟩
  rw [getMsg_three h h9 h3 hn hz]
  split
  · unfold finish
    rw [if_neg]
    rintro ⟨_, hr⟩
    have hl := (rightP_iff.1 (rightM_iff.1 hr).1).2.1
    have := rdEnts_length (min n.toNat 9) en rn
    rw [hz] at this
    simp only [List.length_map] at hl this
    omega
  · rfl

theorem getMsg_five (h : rdMany 9 0 b = ([n1, n2, n3, n4, n5, n6, n7, n8, n9], e9, r9)) (h9 : n9 ≤ 1) (h3 : ¬ n1 = 3) (h5 : n1 = 5) {es ed g : Int} {s d rs rd : List UInt8} {sv : List Int} (hs : rdBytes e9 r9 = (s, es, rs)) (hd : rdBytes es rs = (d, ed, rd)) (hg : getServers s = (sv, g)) :
    getMsg b = if g = 0 then finish ⟨n1, n2, n3, n4, n5, n6, n7, n8, n9 == 1, [], sv, d⟩ ed rd else (zeroMsg, 21) := by
  unfold getMsg rdMsg
  rw [h]
  simp only [msgOf, List.getD_cons_zero, List.getD_cons_succ, if_neg h3, if_pos h5, hs, hd, hg]
  unfold finish
  by_cases ha : g = 0
  · rw [if_pos ha]; subst ha; simp only [h9, decide_true, Bool.and_self, beq_self_eq_true, true_and]
  · rw [if_neg ha, if_neg]; rintro ⟨h1, _⟩; rw [Bool.and_eq_true] at h1; exact ha (by simpa using h1.2)

theorem getMsg_else (h : rdMany 9 0 b = ([n1, n2, n3, n4, n5, n6, n7, n8, n9], e9, r9)) (h9 : n9 ≤ 1) (h3 : ¬ n1 = 3) (h5 : ¬ n1 = 5) :
    getMsg b = finish ⟨n1, n2, n3, n4, n5, n6, n7, n8, n9 == 1, [], [], []⟩ e9 r9 := by
  unfold getMsg rdMsg
  rw [h]
  simp only [msgOf, List.getD_cons_zero, List.getD_cons_succ, if_neg h3, if_neg h5]
  unfold finish
  simp only [h9, decide_true, true_and]
end

theorem rdMany_nine {b : List UInt8} {n1 n2 n3 n4 n5 n6 n7 n8 n9 e1 e2 e3 e4 e5 e6 e7 e8 e9 : Int} {r1 r2 r3 r4 r5 r6 r7 r8 r9 : List UInt8} (x1 : rdNumber 0 b = (n1, e1, r1)) (x2 : rdNumber e1 r1 = (n2, e2, r2)) (x3 : rdNumber e2 r2 = (n3, e3, r3))
    (x4 : rdNumber e3 r3 = (n4, e4, r4)) (x5 : rdNumber e4 r4 = (n5, e5, r5)) (x6 : rdNumber e5 r5 = (n6, e6, r6)) (x7 : rdNumber e6 r6 = (n7, e7, r7)) (x8 : rdNumber e7 r7 = (n8, e8, r8)) (x9 : rdNumber e8 r8 = (n9, e9, r9)) :
    rdMany 9 0 b = ([n1, n2, n3, n4, n5, n6, n7, n8, n9], e9, r9) := by
  simp only [rdMany, x1, x2, x3, x4, x5, x6, x7, x8, x9]

/-- An entry that is not got fells all that holds it. -/
theorem rdEnts_bad {k n : Nat} {e : Int} {l : List UInt8} (h : k ≤ n) (hb : (rdEnts k e l).1.all (fun y => y.2 == 0) = false) : (rdEnts n e l).1.all (fun y => y.2 == 0) = false := by
  obtain ⟨j, rfl⟩ : ∃ j, n = k + j := ⟨n - k, by omega⟩
  induction j with
  | zero => exact hb
  | succ j ih => rw [← Nat.add_assoc, rdEnts_succ, List.all_append, ih (by omega)]; rfl

theorem finish_right {m : Msg} {e : Int} {r : List UInt8} (he : m.es.all rightE = true) (hv : m.kd = 5 → okServers m.sv = true) : finish m e r = if rdEnd e r = 0 ∧ rightP m = true then (m, 0) else (zeroMsg, 21) := by
  unfold finish
  by_cases h : rightP m = true
  · rw [show rightM m = true from rightM_iff.2 ⟨h, he, hv⟩, h]
  · rw [if_neg (by rintro ⟨_, h2⟩; exact h (rightM_iff.1 h2).1), if_neg]
    rintro ⟨_, h2⟩; exact h h2

theorem getServers_ok {s : List UInt8} {sv : List Int} (h : getServers s = (sv, 0)) : okServers sv = true := by
  unfold getServers at h
  simp only at h
  split at h
  · rename_i hc; simp only [Prod.mk.injEq, and_true] at h; rw [← h]; exact hc.1
  · simp at h

/-- It has returned the message x.1, in memory of its own (the entries' data but read), and the error x.2. -/
def RetGM (w0 : World) (L : List HP) (x : Msg × Int) (e : Ending) (w' : World) : Prop :=
  ∃ (A B C : Option Addr) (ca cb cc : Nat) (ys : List (Ent × Option Addr × Nat)), ys.map (·.1) = x.1.es ∧ e = .returned (.tuple #[.agg (msgCells x.1 A B C ca cb cc), .int .i64 x.2]) ∧
    Sat w0 w' (own 41 4 A ca x.1.es.length (entsCells ys) :: DV (entsData ys) :: own 3 1 B cb x.1.sv.length (I8 x.1.sv) :: own 5 1 C cc x.1.dt.length (B8 x.1.dt) :: L)

theorem caught_msg {w0 w : World} {L : List HP} {px pe : Nat} {c0 c1 c2 c3 c4 c5 c6 c7 c8 c9 c10 c11 ve : Value} (v : Int) (hs : Sat w0 w (blk px (.cells #[c0, c1, c2, c3, c4, c5, c6, c7, c8, c9, c10, c11] 27 (0, 0)) :: blk pe (.cells #[ve] 29 (0, 0)) :: L)) :
    CallsD Try.prog 41 #[.pointer (some ⟨px, 0, none⟩), .pointer (some ⟨pe, 0, none⟩)] (.panicking (quitV v)) w fun r u' w' =>
      r = .returned (.tuple #[]) ∧ u' = .panicking [{ v := .iface 29 (.int .i64 v), recovered := true }] ∧ Sat w0 w' (blk pe (.cells #[.int .i64 v] 29 (0, 0)) :: blk px (.cells (msgCells zeroMsg none none none 0 0 0) 27 (0, 0)) :: L) := by
  refine callsD_of_wpS Try.func41 rfl fun c₀ cs hu => ?_
  apply wpS_seq
  apply wpS_region
  simp [wpOpsS, go_sem, recoverD, hu, quitV, Try.ntmps41, Exit.thenS]
  refine wpS_of_wp ?_
  simp only [Array.replicate_succ, Array.replicate_zero, List.push_toArray, List.append_toArray, List.nil_append, List.cons_append, List.setIfInBounds_toArray, List.set_cons_succ, List.set_cons_zero]
  refine wk_seq (fun K1 hK1 => ?_)
  refine wk_reg ?_
  refine pl_take (v := ?_) rfl ?_ ?_
  rotate_left
  · (go_simp; first | done | with_reducible rfl | rfl | omega | assumption | (simp; omega))
  (try simp only [Act.put, aP, aZ, aS])
  refine pl_take (v := .bool true) rfl ?_ ?_
  · (go_simp; first | done | with_reducible rfl | rfl | omega | assumption | (simp; omega))
  (try simp only [Act.put, aP, aZ, aS])
  refine pl_done ?_
  refine hK1.out _ _ ?_
  (try clear hK1 K1)
  refine wp_cond_true rfl ?_
  refine wk_seq (fun K2 hK2 => ?_)
  refine wk_reg ?_
  refine pl_eff rfl (fun Kp hKp => ?_)
  ((with_reducible apply st_alloc); assumption; intro b5 w5 hs5; simp only [Value.cells] at hs5)
  refine hKp.out _ _ ?_
  clear hKp Kp
  (try simp only [Act.put, aP, aZ, aS])
  refine pl_done ?_
  refine hK2.out _ _ ?_
  (try clear hK2 K2)
  refine rg_start2 (L := blk b5 (.cells #[.int .i64 0, .int .i64 0, .int .i64 0, .int .i64 0, .int .i64 0, .int .i64 0, .int .i64 0, .int .i64 0, .bool false, .slice none 0 0, .slice none 0 0, .slice none 0 0] 27 (0, 0)) :: L) rfl (by assumption) (by (repeat (first | exact Pick.nil _ | with_reducible exact Pick.tail _ | with_reducible exact Out.here _ | apply Out.there | apply Pick.cons | apply Pick.drop))) (fun wr3 hsr3 hsq3 => ?_)
  have hsz3 := hsr3
  refine rg_take (i := 0) (v := ?_) rfl (by kernel_rfl) (by kernel_rfl) (by kernel_rfl) (fun _ _ _ h => h) rfl (by assumption) ?_ ?_
  rotate_left
  · intro w hSw; (go_simp; first | done | with_reducible rfl | rfl | omega | assumption | (simp; omega))
  (try simp only [Act.put, aP, aZ, aS])
  refine rg_take (i := 1) (v := ?_) rfl (by kernel_rfl) (by kernel_rfl) (by kernel_rfl) (fun _ _ _ h => h) rfl (by assumption) ?_ ?_
  rotate_left
  · intro w hSw; (go_simp; first | done | with_reducible rfl | rfl | omega | assumption | (simp; omega))
  (try simp only [Act.put, aP, aZ, aS])
  refine rg_take (i := 2) (v := ?_) rfl (by kernel_rfl) (by kernel_rfl) (by kernel_rfl) (fun _ _ _ h => h) rfl (by assumption) ?_ ?_
  rotate_left
  · intro w hSw; (first | ((with_reducible apply yl_loadAgg); assumption; rfl; (repeat (first | with_reducible exact Out.here _ | apply Out.there)); (simp); rfl; rfl) | ((with_reducible apply yl_loadAggR); assumption; rfl; (repeat (first | with_reducible assumption | with_reducible exact Rd.own | with_reducible exact Rd.nil | with_reducible apply Rd.cons)); rfl))
  (try simp only [Act.put, aP, aZ, aS])
  refine rg_take (i := 3) (v := ?_) rfl (by kernel_rfl) (by kernel_rfl) (by kernel_rfl) (fun _ _ _ h => h) rfl (by assumption) ?_ ?_
  rotate_left
  · intro w hSw; (go_simp; first | done | with_reducible rfl | rfl | omega | assumption | (simp; omega))
  (try simp only [Act.put, aP, aZ, aS])
  refine rg_take (i := 4) (v := ?_) rfl (by kernel_rfl) (by kernel_rfl) (by kernel_rfl) (fun _ _ _ h => h) rfl (by assumption) ?_ ?_
  rotate_left
  · intro w hSw; (go_simp; first | done | with_reducible rfl | rfl | omega | assumption | (simp; omega))
  (try simp only [Act.put, aP, aZ, aS])
  refine rg_take (i := 5) (v := ?_) rfl (by kernel_rfl) (by kernel_rfl) (by kernel_rfl) (fun _ _ _ h => h) rfl (by assumption) ?_ ?_
  rotate_left
  · intro w hSw; (go_simp; first | done | with_reducible rfl | rfl | omega | assumption | (simp; omega))
  (try simp only [Act.put, aP, aZ, aS])
  refine rg_one (i := 6) (by kernel_rfl) rfl rfl (fun Kp hKp => ?_)
  (first | ((with_reducible apply st_storeAll); assumption; rfl; (go_simp; rfl); (repeat (first | with_reducible exact Out.here _ | apply Out.there)); rfl; (focus (first | (simp [Value.oneCell']; done) | (simp [Value.cells, Value.oneCell']; done))); rfl; intro wr3_6 hsr3_6; simp only [Value.cells] at hsr3_6) | ((with_reducible apply st_store); assumption; rfl; (go_simp; rfl); (repeat (first | with_reducible exact Out.here _ | apply Out.there)); rfl; (first | (focus (simp [Value.oneCell']; done)) | (simp [Value.cells, Value.oneCell'])); (first | (focus (simp; done)) | (simp [Value.cells])); intro wr3_6 hsr3_6; simp only [upd, Value.cells] at hsr3_6))
  refine rg_back (hK := hKp) ?_ (fun hskr3_6 => ?_)
  · (first | assumption | (apply Sat.drew; assumption) | (apply Sat.pick; assumption; (repeat (first | exact Pick.nil _ | with_reducible exact Pick.tail _ | with_reducible exact Out.here _ | apply Out.there | apply Pick.cons | apply Pick.drop))))
  clear hKp Kp
  have hszr3_6 := hsr3_6
  (try dsimp only [Act.put])
  refine rg_take (i := 7) (v := ?_) rfl (by kernel_rfl) (by kernel_rfl) (by kernel_rfl) (fun _ _ _ h => h) rfl (by assumption) ?_ ?_
  rotate_left
  · intro w hSw; (go_simp; first | done | with_reducible rfl | rfl | omega | assumption | (simp; omega))
  (try simp only [Act.put, aP, aZ, aS])
  refine rg_one (i := 8) (by kernel_rfl) rfl rfl (fun Kp hKp => ?_)
  (first | ((with_reducible apply st_store1); assumption; rfl; (go_simp; rfl); (repeat (first | with_reducible exact Out.here _ | apply Out.there)); rfl; rfl; simp; intro wr3_8 hsr3_8; (try simp only [aP] at hsr3_8); (try simp only [aS] at hsr3_8); (try simp only [aZ] at hsr3_8)) | ((with_reducible apply st_store_own); assumption; rfl; (go_simp; rfl); (repeat (first | with_reducible exact Out.here _ | apply Out.there)); rfl; rfl; omega; intro wr3_8 hsr3_8))
  refine rg_back (hK := hKp) ?_ (fun hskr3_8 => ?_)
  · (first | assumption | (apply Sat.drew; assumption) | (apply Sat.pick; assumption; (repeat (first | exact Pick.nil _ | with_reducible exact Pick.tail _ | with_reducible exact Out.here _ | apply Out.there | apply Pick.cons | apply Pick.drop))))
  clear hKp Kp
  have hszr3_8 := hsr3_8
  (try dsimp only [Act.put])
  refine rg_done (by kernel_rfl) ?_
  -- the end
  have hfin : Sat w0 _ (blk pe (.cells #[.int .i64 v] 29 (0, 0)) :: blk px (.cells #[.int .i64 0, .int .i64 0, .int .i64 0, .int .i64 0, .int .i64 0, .int .i64 0, .int .i64 0, .int .i64 0, .bool false, .slice none 0 0, .slice none 0 0, .slice none 0 0] 27 (0, 0)) :: L) := hsr3_8.pick (by (repeat (first | exact Pick.nil _ | exact Pick.tail _ | exact Out.here _ | apply Out.there | apply Pick.cons | apply Pick.drop)))
  simp [bodyPostS, results, Try.results41]
  exact hfin

theorem caught_msg_idle {w : World} {px pe : Nat} :
    CallsD Try.prog 41 #[.pointer (some ⟨px, 0, none⟩), .pointer (some ⟨pe, 0, none⟩)] .returning w fun r u' w' =>
      r = .returned (.tuple #[]) ∧ u' = .returning ∧ w = w' := by
  refine callsD_of_wpS Try.func41 rfl fun c₀ cs hu => ?_
  apply wpS_seq
  apply wpS_region
  simp [wpOpsS, go_sem, recoverD, hu, Try.ntmps41, Exit.thenS]
  refine wpS_of_wp ?_
  simp only [Array.replicate_succ, Array.replicate_zero, List.push_toArray, List.append_toArray, List.nil_append, List.cons_append, List.setIfInBounds_toArray, List.set_cons_succ, List.set_cons_zero]
  refine wk_seq (fun K1 hK1 => ?_)
  refine wk_reg ?_
  refine pl_take (v := ?_) rfl ?_ ?_
  rotate_left
  · (go_simp; first | done | with_reducible rfl | rfl | omega | assumption | (simp; omega))
  (try simp only [Act.put, aP, aZ, aS])
  refine pl_take (v := .bool false) rfl ?_ ?_
  · (go_simp; first | done | with_reducible rfl | rfl | omega | assumption | (simp; omega))
  (try simp only [Act.put, aP, aZ, aS])
  refine pl_done ?_
  refine hK1.out _ _ ?_
  (try clear hK1 K1)
  refine wp_cond_false rfl ?_
  refine wp_skip ?_
  -- the end
  cases c₀
  simp_all [bodyPostS, results, Try.results41]

theorem get_caught {w0 w : World} {L : List HP} {px pe : Nat} {c0 c1 c2 c3 c4 c5 c6 c7 c8 c9 c10 c11 ve : Value} {tmps : Array Value} (v : Int) (hp : tmps.getD 2 undef = .pointer (some ⟨px, 0, none⟩)) (hq : tmps.getD 3 undef = .pointer (some ⟨pe, 0, none⟩))
    (hs : Sat w0 w (blk px (.cells #[c0, c1, c2, c3, c4, c5, c6, c7, c8, c9, c10, c11] 27 (0, 0)) :: blk pe (.cells #[ve] 29 (0, 0)) :: L)) :
    Leaves Try.prog Try.f17 tmps (RetGM w0 L (zeroMsg, v)) [{ target := .fn (.func 41) #[], args := #[.pointer (some ⟨px, 0, none⟩), .pointer (some ⟨pe, 0, none⟩)] }] (.panicking (quitV v)) w := by
  refine leaves_cons (f := 41) (args := #[.pointer (some ⟨px, 0, none⟩), .pointer (some ⟨pe, 0, none⟩)]) (by simp) (by simp [go_sem]) ?_
  refine (caught_msg v hs).mono ?_
  rintro e u' w2 ⟨rfl, rfl, hs2⟩
  have c2 : w2.cell? ⟨pe, 0, none⟩ = some (.int .i64 v) := (Cl.blk rfl) w2 hs2
  have h1 := run_loadVar_sl (P := Try.prog) (T := 27) (b := px) (off := 0) (n := 12) hs2 (by (repeat (first | exact Out.here _ | apply Out.there))) (by simp [msgCells]) rfl
  have h2 : (loadVar 29 ⟨pe, 0, none⟩).run Try.prog w2 = .ok (.int .i64 v) w2 := by simp [go_sem, c2]
  rw [Array.getD_eq_getD_getElem?] at hp hq
  simp [Leaves, settle, results, Try.results17, asAddr, hp, hq, h1, h2]
  exact ⟨none, none, none, 0, 0, 0, [], rfl, rfl, ((((hs2.own_nil 5 1).own_nil 3 1).dv_nil).own_nil 41 4).pick (by (repeat (first | exact Pick.nil _ | exact Pick.tail _ | exact Out.here _ | apply Out.there | apply Pick.cons | apply Pick.drop)))⟩

theorem get_leaves {w0 w : World} {L : List HP} {px pe : Nat} {A B C : Option Addr} {ca cb cc : Nat} {tmps : Array Value} (m : Msg) (ys : List (Ent × Option Addr × Nat)) (hy : ys.map (·.1) = m.es) (hp : tmps.getD 2 undef = .pointer (some ⟨px, 0, none⟩)) (hq : tmps.getD 3 undef = .pointer (some ⟨pe, 0, none⟩))
    (hs : Sat w0 w (blk px (.cells (msgCells m A B C ca cb cc) 27 (0, 0)) :: blk pe (.cells #[.int .i64 0] 29 (0, 0)) :: own 41 4 A ca m.es.length (entsCells ys) :: DV (entsData ys) :: own 3 1 B cb m.sv.length (I8 m.sv) :: own 5 1 C cc m.dt.length (B8 m.dt) :: L)) :
    Leaves Try.prog Try.f17 tmps (RetGM w0 L (m, 0)) [{ target := .fn (.func 41) #[], args := #[.pointer (some ⟨px, 0, none⟩), .pointer (some ⟨pe, 0, none⟩)] }] .returning w := by
  refine leaves_cons (f := 41) (args := #[.pointer (some ⟨px, 0, none⟩), .pointer (some ⟨pe, 0, none⟩)]) (by simp) (by simp [go_sem]) ?_
  refine caught_msg_idle.mono ?_
  rintro e u' w2 ⟨rfl, rfl, rfl⟩
  have c2 : w.cell? ⟨pe, 0, none⟩ = some (.int .i64 0) := (Cl.cons (Cl.blk rfl)) w hs
  have h1 := run_loadVar_sl (P := Try.prog) (T := 27) (b := px) (off := 0) (n := 12) hs (by (repeat (first | exact Out.here _ | apply Out.there))) (by simp [msgCells]) rfl
  have h2 : (loadVar 29 ⟨pe, 0, none⟩).run Try.prog w = .ok (.int .i64 0) w := by simp [go_sem, c2]
  rw [Array.getD_eq_getD_getElem?] at hp hq
  simp [Leaves, settle, results, Try.results17, asAddr, hp, hq, h1, h2]
  exact ⟨A, B, C, ca, cb, cc, ys, hy, rfl, hs.pick (by (repeat (first | exact Pick.nil _ | exact Pick.tail _ | exact Out.here _ | apply Out.there | apply Pick.cons | apply Pick.drop)))⟩
end Go.Proofs.Ytcedbmcnjckajaa
