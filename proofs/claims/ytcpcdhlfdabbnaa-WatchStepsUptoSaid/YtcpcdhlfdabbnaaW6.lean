/-
  Two logs, side by side: Match and Agree of the program.
-/
import Derived.Test.YtcpcdhlfdabbnaaW5
namespace Go.Proofs.Ytcpcdhlfdabbnaa
open Go Go.RowKit Sl Go.Shelf
set_option maxHeartbeats 20000000
set_option maxRecDepth 8000

def wholeV (v : Vw) : Vw := if rightV v then v else ⟨0, 0, []⟩

theorem wholeV_ok (v : Vw) : 0 ≤ (wholeV v).b ∧ (wholeV v).b ≤ 549755813888 ∧ (wholeV v).l.length ≤ 4096 ∧ rowOk (wholeV v).b (wholeV v).t (wholeV v).l = true := by
  unfold wholeV
  split
  · rename_i h
    unfold rightV at h
    simp only [Bool.and_eq_true, decide_eq_true_eq] at h
    exact ⟨h.1.1, h.1.2.1, h.1.2.2.2.2, h.2⟩
  · exact ⟨by simp, by simp, by simp, rfl⟩

/-- It has returned a view that may be; it reads wherever Lr lies. -/
def RetVw (w0 : World) (Lr L : List HP) (v : Vw) (e : Ending) (w' : World) : Prop := ∃ (A : Option Addr) (c : Nat), e = .returned (.agg #[.int .i64 v.b, .int .i64 v.t, .slice A v.l.length c]) ∧ SlV EntV 4 (Rd w0 Lr) [.slice A v.l.length c] v.l ∧ Sat w0 w' L

theorem slV_nilW {w0 : World} {L : List HP} : SlV EntV 4 (Rd w0 L) [.slice none 0 0] [] := ⟨none, 0, [], rfl, Rd.nil, rfl, fun i x h => by simp at h⟩

theorem wholeP {w0 w : World} {L Lr : List HP} {A : Option Addr} {c : Nat} (b t : Int) (l : List Ent) (hl : l.length ≤ 1048576) (hd : ∀ x ∈ l, x.d.length ≤ 1048576) (hs : Sat w0 w L) (hp : Pick L Lr)
    (hE : SlV EntV 4 (Rd w0 Lr) [.slice A l.length c] l) :
    Calls Try.prog 39 #[.agg #[.int .i64 b, .int .i64 t, .slice A l.length c]] w (RetVw w0 Lr L (wholeV ⟨b, t, l⟩)) := by
  refine (whole_spec b t l hl hd hs ((SlV.mono EntV.mono).pick hp hE)).mono ?_
  rintro e w' ⟨rfl, hs2⟩
  unfold wholeV
  cases h : rightV ⟨b, t, l⟩ with
  | true => exact ⟨A, c, rfl, hE, hs2⟩
  | false => exact ⟨none, 0, rfl, slV_nilW, hs2⟩

theorem wholeR {w0 w : World} {L Lr : List HP} {A : Option Addr} {c : Nat} (b t : Int) (l : List Ent) (hl : l.length ≤ 1048576) (hd : ∀ x ∈ l, x.d.length ≤ 1048576) (hs : Sat w0 w L) (hp : Pick L Lr)
    (hE : SlV EntV 4 (Rd w0 Lr) [.slice A l.length c] l) :
    Calls Try.prog 43 #[.agg #[.int .i64 b, .int .i64 t, .slice A l.length c]] w (RetVw w0 Lr L (wholeV ⟨b, t, l⟩)) := by
  refine (refWhole_spec b t l hl hd hs ((SlV.mono EntV.mono).pick hp hE)).mono ?_
  rintro e w' ⟨rfl, hs2⟩
  unfold wholeV
  cases h : rightV ⟨b, t, l⟩ with
  | true => exact ⟨A, c, rfl, hE, hs2⟩
  | false => exact ⟨none, 0, rfl, slV_nilW, hs2⟩

def matchV (a b : Vw) : Int := bothW stepD (wholeV a) (wholeV b) (bothW stepM (wholeV a) (wholeV b) 4611686018427387904 0) 0
def agreeV (a : Vw) (ca : Int) (b : Vw) (cb : Int) : Int := bothW stepD (wholeV a) (wholeV b) (min ca cb) 0

theorem agree_spec {w0 w : World} {L : List HP} {A B : Option Addr} {ca cb : Nat} (ia ta ma : Int) (la : Bool) (ab at_ : Int) (al : List Ent) (ib tb mb : Int) (lb : Bool) (bb bt : Int) (bl : List Ent) (hal : al.length ≤ 1048576) (hda : ∀ x ∈ al, x.d.length ≤ 1048576) (hbl : bl.length ≤ 1048576) (hdb : ∀ x ∈ bl, x.d.length ≤ 1048576) (hs : Sat w0 w L)
    (hE : SlV EntV 4 (Rd w0 L) [.slice A al.length ca] al) (hE' : SlV EntV 4 (Rd w0 L) [.slice B bl.length cb] bl) :
    Calls Try.prog 16 #[.agg #[.int .i64 ia, .int .i64 ta, .int .i64 ma, .bool la, .int .i64 ab, .int .i64 at_, .slice A al.length ca], .agg #[.int .i64 ib, .int .i64 tb, .int .i64 mb, .bool lb, .int .i64 bb, .int .i64 bt, .slice B bl.length cb]] w
      (fun e w' => e = .returned (.int .i64 (agreeV ⟨ab, at_, al⟩ ma ⟨bb, bt, bl⟩ mb)) ∧ Sat w0 w' L) := by
  unfold agreeV
  obtain ⟨q1, q2, q3, _⟩ := wholeV_ok ⟨ab, at_, al⟩
  obtain ⟨q5, q6, q7, _⟩ := wholeV_ok ⟨bb, bt, bl⟩
  have hWA := fun (w : World) (L' : List HP) (hs : Sat w0 w L') (hp : Pick L' L) => wholeP ab at_ al hal hda hs hp hE
  have hWB := fun (w : World) (L' : List HP) (hs : Sat w0 w L') (hp : Pick L' L) => wholeP bb bt bl hbl hdb hs hp hE'
  obtain ⟨⟨wab, wat, wal⟩, ha⟩ : ∃ v, wholeV ⟨ab, at_, al⟩ = v := ⟨_, rfl⟩
  obtain ⟨⟨wbb, wbt, wbl⟩, hb⟩ : ∃ v, wholeV ⟨bb, bt, bl⟩ = v := ⟨_, rfl⟩
  rw [ha] at q1 q2 q3 hWA
  rw [hb] at q5 q6 q7 hWB
  simp only at q1 q2 q3 q5 q6 q7
  rw [ha, hb]
  clear ha hb
  obtain ⟨mn, hmn⟩ : ∃ mn, (if mb < ma then mb else ma) = mn := ⟨_, rfl⟩
  rw [show min ma mb = mn from by rw [← hmn]; split <;> omega]
  have hD := fun (w : World) (L' : List HP) (A B : Option Addr) (ca cb : Nat) (hs : Sat w0 w L') (h1 : SlV EntV 4 (Rd w0 L') [.slice A wal.length ca] wal) (h2 : SlV EntV 4 (Rd w0 L') [.slice B wbl.length cb] wbl) =>
    differ_spec (ca := ca) (cb := cb) wab wat wal wbb wbt wbl mn q1 q2 q5 q6 (by omega) (by omega) hs h1 h2
  obtain ⟨R, hR⟩ : ∃ R, bothW stepD ⟨wab, wat, wal⟩ ⟨wbb, wbt, wbl⟩ mn 0 = R := ⟨_, rfl⟩
  rw [hR] at hD ⊢
  clear hR
  go_enter Try.func16, Try.ntmps16
  refine wk_seq (fun K0 hK0 => ?_)
  refine wk_reg ?_
  refine pl_eff rfl (fun Kp hKp => ?_)
  ((with_reducible apply st_box); assumption; (go_simp; rfl); intro b2 w2 hs2; simp only [Value.cells] at hs2)
  refine hKp.out _ _ ?_
  clear hKp Kp
  (try simp only [Act.put, aP, aZ, aS])
  refine pl_eff rfl (fun Kp hKp => ?_)
  ((with_reducible apply st_box); assumption; (go_simp; rfl); intro b3 w3 hs3; simp only [Value.cells] at hs3)
  refine hKp.out _ _ ?_
  clear hKp Kp
  (try simp only [Act.put, aP, aZ, aS])
  refine pl_take (v := ?_) rfl ?_ ?_
  rotate_left
  · (go_simp; first | done | with_reducible rfl | rfl | omega | assumption | (simp; omega))
  (try simp only [Act.put, aP, aZ, aS])
  refine pl_done ?_
  refine hK0.out _ _ ?_
  (try clear hK0 K0)
  refine wk_seq (fun K1 hK1 => ?_)
  refine rg_start2 (L := blk b2 (.cells #[.int .i64 ia, .int .i64 ta, .int .i64 ma, .bool la, .int .i64 ab, .int .i64 at_, .slice A al.length ca] 28 (0, 0)) :: blk b3 (.cells #[.int .i64 ib, .int .i64 tb, .int .i64 mb, .bool lb, .int .i64 bb, .int .i64 bt, .slice B bl.length cb] 28 (0, 0)) :: L) rfl (by assumption) (by (repeat (first | exact Pick.nil _ | with_reducible exact Pick.tail _ | with_reducible exact Out.here _ | apply Out.there | apply Pick.cons | apply Pick.drop))) (fun wr1 hsr1 hsq1 => ?_)
  have hsz1 := hsr1
  refine rg_take (i := 0) (v := ?_) rfl (by kernel_rfl) (by kernel_rfl) (by kernel_rfl) (fun _ _ _ h => h) rfl (by assumption) ?_ ?_
  rotate_left
  · intro w hSw; (go_simp; first | done | with_reducible rfl | rfl | omega | assumption | (simp; omega))
  (try simp only [Act.put, aP, aZ, aS])
  refine rg_take (i := 1) (v := ?_) rfl (by kernel_rfl) (by kernel_rfl) (by kernel_rfl) (fun _ _ _ h => h) rfl (by assumption) ?_ ?_
  rotate_left
  · intro w hSw; (first | ((with_reducible apply yl_loadAgg); assumption; rfl; (repeat (first | with_reducible exact Out.here _ | apply Out.there)); (simp); rfl; rfl) | ((with_reducible apply yl_loadAggR); assumption; rfl; (repeat (first | with_reducible assumption | with_reducible exact Rd.own | with_reducible exact Rd.nil | with_reducible apply Rd.cons)); rfl))
  (try simp only [Act.put, aP, aZ, aS])
  refine rg_take (i := 3) (v := ?_) rfl (by kernel_rfl) (by kernel_rfl) (by kernel_rfl) (fun _ _ _ h => h) rfl (by assumption) ?_ ?_
  rotate_left
  · intro w hSw; (go_simp; first | done | with_reducible rfl | rfl | omega | assumption | (simp; omega))
  (try simp only [Act.put, aP, aZ, aS])
  refine rg_take (i := 4) (v := ?_) rfl (by kernel_rfl) (by kernel_rfl) (by kernel_rfl) (fun _ _ _ h => h) rfl (by assumption) ?_ ?_
  rotate_left
  · intro w hSw; (first | ((with_reducible apply yl_loadAgg); assumption; rfl; (repeat (first | with_reducible exact Out.here _ | apply Out.there)); (simp); rfl; rfl) | ((with_reducible apply yl_loadAggR); assumption; rfl; (repeat (first | with_reducible assumption | with_reducible exact Rd.own | with_reducible exact Rd.nil | with_reducible apply Rd.cons)); rfl))
  (try simp only [Act.put, aP, aZ, aS])
  refine rg_take (i := 6) (v := ?_) rfl (by kernel_rfl) (by kernel_rfl) (by kernel_rfl) (fun _ _ _ h => h) rfl (by assumption) ?_ ?_
  rotate_left
  · intro w hSw; (go_simp; first | done | with_reducible rfl | rfl | omega | assumption | (simp; omega))
  (try simp only [Act.put, aP, aZ, aS])
  refine rg_take (i := 7) (v := ?_) rfl (by kernel_rfl) (by kernel_rfl) (by kernel_rfl) (fun _ _ _ h => h) rfl (by assumption) ?_ ?_
  rotate_left
  · intro w hSw; ((with_reducible apply yl_load); assumption; rfl; (repeat (first | with_reducible assumption | ((with_reducible apply Cl.own); exact rfl) | ((with_reducible apply Cl.blkL); exact rfl) | with_reducible apply Cl.cons)); rfl)
  (try simp only [Act.put, aP, aZ, aS])
  refine rg_take (i := 8) (v := ?_) rfl (by kernel_rfl) (by kernel_rfl) (by kernel_rfl) (fun _ _ _ h => h) rfl (by assumption) ?_ ?_
  rotate_left
  · intro w hSw; (go_simp; first | done | with_reducible rfl | rfl | omega | assumption | (simp; omega))
  (try simp only [Act.put, aP, aZ, aS])
  refine rg_take (i := 9) (v := ?_) rfl (by kernel_rfl) (by kernel_rfl) (by kernel_rfl) (fun _ _ _ h => h) rfl (by assumption) ?_ ?_
  rotate_left
  · intro w hSw; ((with_reducible apply yl_load); assumption; rfl; (repeat (first | with_reducible assumption | ((with_reducible apply Cl.own); exact rfl) | ((with_reducible apply Cl.blkL); exact rfl) | with_reducible apply Cl.cons)); rfl)
  (try simp only [Act.put, aP, aZ, aS])
  refine rg_take (i := 10) (v := ?_) rfl (by kernel_rfl) (by kernel_rfl) (by kernel_rfl) (fun _ _ _ h => h) rfl (by assumption) ?_ ?_
  rotate_left
  · intro w hSw; (go_simp; first | done | with_reducible rfl | rfl | omega | assumption | (simp; omega))
  (try simp only [Act.put, aP, aZ, aS])
  refine rg_one (i := 2) (by kernel_rfl) rfl rfl (fun Kp hKp => ?_)
  go_simp
  (refine (hWA _ _ (by assumption) (by (repeat (first | exact Pick.nil _ | exact Pick.tail _ | exact Out.here _ | apply Out.there | apply Pick.cons | apply Pick.drop)))).mono ?_; rintro e7 w7 ⟨WA, wca, rfl, hEA, hs7⟩; simp only at hEA ⊢)
  (try go_wp2_with fail)
  refine rg_back (hK := hKp) ?_ (fun hsk7 => ?_)
  · (first | assumption | (apply Sat.drew; assumption) | (apply Sat.pick; assumption; (repeat (first | exact Pick.nil _ | with_reducible exact Pick.tail _ | with_reducible exact Out.here _ | apply Out.there | apply Pick.cons | apply Pick.drop))))
  clear hKp Kp
  have hsz7 := hs7
  (try simp only [Act.put, aP, aZ, aS])
  refine rg_one (i := 5) (by kernel_rfl) rfl rfl (fun Kp hKp => ?_)
  go_simp
  (refine (hWB _ _ (by assumption) (by (repeat (first | exact Pick.nil _ | exact Pick.tail _ | exact Out.here _ | apply Out.there | apply Pick.cons | apply Pick.drop)))).mono ?_; rintro e10 w10 ⟨WB, wcb, rfl, hEB, hs10⟩; simp only at hEB ⊢)
  (try go_wp2_with fail)
  refine rg_back (hK := hKp) ?_ (fun hsk10 => ?_)
  · (first | assumption | (apply Sat.drew; assumption) | (apply Sat.pick; assumption; (repeat (first | exact Pick.nil _ | with_reducible exact Pick.tail _ | with_reducible exact Out.here _ | apply Out.there | apply Pick.cons | apply Pick.drop))))
  clear hKp Kp
  have hsz10 := hs10
  (try simp only [Act.put, aP, aZ, aS])
  refine rg_one (i := 11) (by kernel_rfl) rfl rfl (fun Kp hKp => ?_)
  go_simp
  (refine (hD _ _ _ _ _ _ (by assumption) ((SlV.mono EntV.mono).pick (by (repeat (first | exact Pick.nil _ | exact Pick.tail _ | exact Out.here _ | apply Out.there | apply Pick.cons | apply Pick.drop))) hEA) ((SlV.mono EntV.mono).pick (by (repeat (first | exact Pick.nil _ | exact Pick.tail _ | exact Out.here _ | apply Out.there | apply Pick.cons | apply Pick.drop))) hEB)).mono ?_; rintro e16 w16 ⟨rfl, hs16⟩)
  (try go_wp2_with fail)
  refine rg_back (hK := hKp) ?_ (fun hsk16 => ?_)
  · (first | assumption | (apply Sat.drew; assumption) | (apply Sat.pick; assumption; (repeat (first | exact Pick.nil _ | with_reducible exact Pick.tail _ | with_reducible exact Out.here _ | apply Out.there | apply Pick.cons | apply Pick.drop))))
  clear hKp Kp
  have hsz16 := hs16
  (try simp only [Act.put, aP, aZ, aS])
  refine rg_take (i := 12) (v := ?_) rfl (by kernel_rfl) (by kernel_rfl) (by kernel_rfl) (fun _ _ _ h => h) rfl (by assumption) ?_ ?_
  rotate_left
  · intro w hSw; (go_simp; first | done | with_reducible rfl | rfl | omega | assumption | (simp; omega))
  (try simp only [Act.put, aP, aZ, aS])
  refine rg_done (by kernel_rfl) ?_
  refine hK1.out _ _ ?_
  (try clear hK1 K1)
  refine wp_ret ?_
  go_ret
  exact ⟨rfl, (by assumption : Sat w0 _ _).pick (by (repeat (first | exact Pick.nil _ | exact Pick.tail _ | exact Out.here _ | apply Out.there | apply Pick.cons | apply Pick.drop)))⟩

theorem match_spec {w0 w : World} {L : List HP} {A B : Option Addr} {ca cb : Nat} (ab at_ : Int) (al : List Ent) (bb bt : Int) (bl : List Ent) (hal : al.length ≤ 1048576) (hda : ∀ x ∈ al, x.d.length ≤ 1048576) (hbl : bl.length ≤ 1048576) (hdb : ∀ x ∈ bl, x.d.length ≤ 1048576) (hs : Sat w0 w L)
    (hE : SlV EntV 4 (Rd w0 L) [.slice A al.length ca] al) (hE' : SlV EntV 4 (Rd w0 L) [.slice B bl.length cb] bl) :
    Calls Try.prog 14 #[.agg #[.int .i64 ab, .int .i64 at_, .slice A al.length ca], .agg #[.int .i64 bb, .int .i64 bt, .slice B bl.length cb]] w (fun e w' => e = .returned (.int .i64 (matchV ⟨ab, at_, al⟩ ⟨bb, bt, bl⟩)) ∧ Sat w0 w' L) := by
  unfold matchV
  obtain ⟨q1, q2, q3, _⟩ := wholeV_ok ⟨ab, at_, al⟩
  obtain ⟨q5, q6, q7, _⟩ := wholeV_ok ⟨bb, bt, bl⟩
  have hWA := fun (w : World) (L' : List HP) (hs : Sat w0 w L') (hp : Pick L' L) => wholeP ab at_ al hal hda hs hp hE
  have hWB := fun (w : World) (L' : List HP) (hs : Sat w0 w L') (hp : Pick L' L) => wholeP bb bt bl hbl hdb hs hp hE'
  obtain ⟨⟨wab, wat, wal⟩, ha⟩ : ∃ v, wholeV ⟨ab, at_, al⟩ = v := ⟨_, rfl⟩
  obtain ⟨⟨wbb, wbt, wbl⟩, hb⟩ : ∃ v, wholeV ⟨bb, bt, bl⟩ = v := ⟨_, rfl⟩
  rw [ha] at q1 q2 q3 hWA
  rw [hb] at q5 q6 q7 hWB
  simp only at q1 q2 q3 q5 q6 q7
  rw [ha, hb]
  clear ha hb
  have hM := fun (w : World) (L' : List HP) (bn : Nat) (A B : Option Addr) (ca cb : Nat) (hs : Sat w0 w (blk bn (.cells #[.int .i64 0] 3 (0, 0)) :: L')) (h1 : SlV EntV 4 (Rd w0 L') [.slice A wal.length ca] wal) (h2 : SlV EntV 4 (Rd w0 L') [.slice B wbl.length cb] wbl) =>
    both_spec (f := 41) (ca := ca) (cb := cb) stepM wab wat wal wbb wbt wbl 4611686018427387904 0 q1 q2 q5 q6 (by omega) (by omega) enter41 (fun i x y s {_ _ _ _ _ _} hs _ _ _ _ => match1_spec i x y s hs) hs h1 h2
  obtain ⟨n, hn⟩ : ∃ n, bothW stepM ⟨wab, wat, wal⟩ ⟨wbb, wbt, wbl⟩ 4611686018427387904 0 = n := ⟨_, rfl⟩
  rw [hn] at hM ⊢
  clear hn
  have hD := fun (w : World) (L' : List HP) (A B : Option Addr) (ca cb : Nat) (hs : Sat w0 w L') (h1 : SlV EntV 4 (Rd w0 L') [.slice A wal.length ca] wal) (h2 : SlV EntV 4 (Rd w0 L') [.slice B wbl.length cb] wbl) =>
    differ_spec (ca := ca) (cb := cb) wab wat wal wbb wbt wbl n q1 q2 q5 q6 (by omega) (by omega) hs h1 h2
  obtain ⟨R, hR⟩ : ∃ R, bothW stepD ⟨wab, wat, wal⟩ ⟨wbb, wbt, wbl⟩ n 0 = R := ⟨_, rfl⟩
  rw [hR] at hD ⊢
  clear hR
  go_enter Try.func14, Try.ntmps14
  refine wk_seq (fun K0 hK0 => ?_)
  refine wk_reg ?_
  refine pl_eff rfl (fun Kp hKp => ?_)
  ((with_reducible apply st_box); assumption; (go_simp; rfl); intro b2 w2 hs2; simp only [Value.cells] at hs2)
  refine hKp.out _ _ ?_
  clear hKp Kp
  (try simp only [Act.put, aP, aZ, aS])
  refine pl_eff rfl (fun Kp hKp => ?_)
  ((with_reducible apply st_box); assumption; (go_simp; rfl); intro b3 w3 hs3; simp only [Value.cells] at hs3)
  refine hKp.out _ _ ?_
  clear hKp Kp
  (try simp only [Act.put, aP, aZ, aS])
  refine pl_take (v := ?_) rfl ?_ ?_
  rotate_left
  · (go_simp; first | done | with_reducible rfl | rfl | omega | assumption | (simp; omega))
  (try simp only [Act.put, aP, aZ, aS])
  refine pl_done ?_
  refine hK0.out _ _ ?_
  (try clear hK0 K0)
  refine wk_seq (fun K1 hK1 => ?_)
  -- at a cut
  go_cut [] from 6 to 9 (fun w => ∃ (WA WB : Option Addr) (wca wcb : Nat), SlV EntV 4 (Rd w0 L) [.slice WA wal.length wca] wal ∧ SlV EntV 4 (Rd w0 L) [.slice WB wbl.length wcb] wbl ∧ Sat w0 w (blk b2 (.cells #[.int .i64 wab, .int .i64 wat, .slice WA wal.length wca] 26 (0, 0)) :: blk b3 (.cells #[.int .i64 wbb, .int .i64 wbt, .slice WB wbl.length wcb] 26 (0, 0)) :: L))
  case first =>
    refine rg_start2 (L := L) rfl (by assumption) (by (repeat (first | exact Pick.nil _ | with_reducible exact Pick.tail _ | with_reducible exact Out.here _ | apply Out.there | apply Pick.cons | apply Pick.drop))) (fun wr1 hsr1 hsq1 => ?_)
    have hsz1 := hsr1
    refine rg_two (i := 0) (j := 2) (by kernel_rfl) rfl rfl rfl rfl (fun Kp hKp => ?_) (fun Kp hKp => ?_)
    · ((with_reducible apply st_loadAgg); assumption; rfl; (repeat (first | with_reducible exact Out.here _ | apply Out.there)); (simp); rfl)
      refine rg_back (hK := hKp) ?_ (fun hsk6 => ?_)
      · (first | assumption | (apply Sat.drew; assumption) | (apply Sat.pick; assumption; (repeat (first | exact Pick.nil _ | with_reducible exact Pick.tail _ | with_reducible exact Out.here _ | apply Out.there | apply Pick.cons | apply Pick.drop))))
      clear hKp Kp
      have hsz6 := hsr1
      (try simp only [Act.put, aP, aZ, aS])
      refine rg_two (i := 1) (j := 2) (by kernel_rfl) rfl rfl rfl rfl (fun Kp hKp => ?_) (fun Kp hKp => ?_)
      · go_simp
        (refine (hWA _ _ (by assumption) (by (repeat (first | exact Pick.nil _ | exact Pick.tail _ | exact Out.here _ | apply Out.there | apply Pick.cons | apply Pick.drop)))).mono ?_; rintro e7 w7 ⟨WA, wca, rfl, hEA, hs7⟩; simp only at hEA ⊢)
        (try go_wp2_with fail)
        refine rg_back (hK := hKp) ?_ (fun hsk7 => ?_)
        · (first | assumption | (apply Sat.drew; assumption) | (apply Sat.pick; assumption; (repeat (first | exact Pick.nil _ | with_reducible exact Pick.tail _ | with_reducible exact Out.here _ | apply Out.there | apply Pick.cons | apply Pick.drop))))
        clear hKp Kp
        have hsz7 := hs7
        (try simp only [Act.put, aP, aZ, aS])
        refine rg_one (i := 2) (by kernel_rfl) rfl rfl (fun Kp hKp => ?_)
        ((with_reducible apply st_loadAgg); assumption; rfl; (repeat (first | with_reducible exact Out.here _ | apply Out.there)); (simp); rfl)
        refine rg_back (hK := hKp) ?_ (fun hsk8 => ?_)
        · (first | assumption | (apply Sat.drew; assumption) | (apply Sat.pick; assumption; (repeat (first | exact Pick.nil _ | with_reducible exact Pick.tail _ | with_reducible exact Out.here _ | apply Out.there | apply Pick.cons | apply Pick.drop))))
        clear hKp Kp
        have hsz8 := hs7
        (try simp only [Act.put, aP, aZ, aS])
        refine rg_one (i := 3) (by kernel_rfl) rfl rfl (fun Kp hKp => ?_)
        go_simp
        (refine (hWB _ _ (by assumption) (by (repeat (first | exact Pick.nil _ | exact Pick.tail _ | exact Out.here _ | apply Out.there | apply Pick.cons | apply Pick.drop)))).mono ?_; rintro e9 w9 ⟨WB, wcb, rfl, hEB, hs9⟩; simp only at hEB ⊢)
        (try go_wp2_with fail)
        refine rg_back (hK := hKp) ?_ (fun hsk9 => ?_)
        · (first | assumption | (apply Sat.drew; assumption) | (apply Sat.pick; assumption; (repeat (first | exact Pick.nil _ | with_reducible exact Pick.tail _ | with_reducible exact Out.here _ | apply Out.there | apply Pick.cons | apply Pick.drop))))
        clear hKp Kp
        have hsz9 := hs9
        (try simp only [Act.put, aP, aZ, aS])
        refine rg_one (i := 4) (by kernel_rfl) rfl rfl (fun Kp hKp => ?_)
        (first | ((with_reducible apply st_storeAll); assumption; rfl; (go_simp; rfl); (repeat (first | with_reducible exact Out.here _ | apply Out.there)); rfl; (focus (first | (simp [Value.oneCell']; done) | (simp [Value.cells, Value.oneCell']; done))); rfl; intro wr1_4 hsr1_4; simp only [Value.cells] at hsr1_4) | ((with_reducible apply st_store); assumption; rfl; (go_simp; rfl); (repeat (first | with_reducible exact Out.here _ | apply Out.there)); rfl; (first | (focus (simp [Value.oneCell']; done)) | (simp [Value.cells, Value.oneCell'])); (first | (focus (simp; done)) | (simp [Value.cells])); intro wr1_4 hsr1_4; simp only [upd, Value.cells] at hsr1_4))
        refine rg_back (hK := hKp) ?_ (fun hskr1_4 => ?_)
        · (first | assumption | (apply Sat.drew; assumption) | (apply Sat.pick; assumption; (repeat (first | exact Pick.nil _ | with_reducible exact Pick.tail _ | with_reducible exact Out.here _ | apply Out.there | apply Pick.cons | apply Pick.drop))))
        clear hKp Kp
        have hszr1_4 := hsr1_4
        (try dsimp only [Act.put])
        refine rg_one (i := 5) (by kernel_rfl) rfl rfl (fun Kp hKp => ?_)
        (first | ((with_reducible apply st_storeAll); assumption; rfl; (go_simp; rfl); (repeat (first | with_reducible exact Out.here _ | apply Out.there)); rfl; (focus (first | (simp [Value.oneCell']; done) | (simp [Value.cells, Value.oneCell']; done))); rfl; intro wr1_5 hsr1_5; simp only [Value.cells] at hsr1_5) | ((with_reducible apply st_store); assumption; rfl; (go_simp; rfl); (repeat (first | with_reducible exact Out.here _ | apply Out.there)); rfl; (first | (focus (simp [Value.oneCell']; done)) | (simp [Value.cells, Value.oneCell'])); (first | (focus (simp; done)) | (simp [Value.cells])); intro wr1_5 hsr1_5; simp only [upd, Value.cells] at hsr1_5))
        refine rg_back (hK := hKp) ?_ (fun hskr1_5 => ?_)
        · (first | assumption | (apply Sat.drew; assumption) | (apply Sat.pick; assumption; (repeat (first | exact Pick.nil _ | with_reducible exact Pick.tail _ | with_reducible exact Out.here _ | apply Out.there | apply Pick.cons | apply Pick.drop))))
        clear hKp Kp
        have hszr1_5 := hsr1_5
        (try dsimp only [Act.put])
        refine rg_done (by kernel_rfl) ?_
        refine (by assumption : ∀ a' w', Met _ a' w' → _) _ _ ?_
        go_meet
        case rel => exact ⟨WA, WB, wca, wcb, hEA, hEB, (by assumption : Sat w0 _ _).pick (by (repeat (first | exact Pick.nil _ | exact Pick.tail _ | exact Out.here _ | apply Out.there | apply Pick.cons | apply Pick.drop)))⟩
      · ((with_reducible apply st_loadAgg); assumption; rfl; (repeat (first | with_reducible exact Out.here _ | apply Out.there)); (simp); rfl)
        refine rg_back (hK := hKp) ?_ (fun hsk8 => ?_)
        · (first | assumption | (apply Sat.drew; assumption) | (apply Sat.pick; assumption; (repeat (first | exact Pick.nil _ | with_reducible exact Pick.tail _ | with_reducible exact Out.here _ | apply Out.there | apply Pick.cons | apply Pick.drop))))
        clear hKp Kp
        have hsz8 := hsr1
        (try simp only [Act.put, aP, aZ, aS])
        refine rg_one (i := 1) (by kernel_rfl) rfl rfl (fun Kp hKp => ?_)
        go_simp
        (refine (hWA _ _ (by assumption) (by (repeat (first | exact Pick.nil _ | exact Pick.tail _ | exact Out.here _ | apply Out.there | apply Pick.cons | apply Pick.drop)))).mono ?_; rintro e7 w7 ⟨WA, wca, rfl, hEA, hs7⟩; simp only at hEA ⊢)
        (try go_wp2_with fail)
        refine rg_back (hK := hKp) ?_ (fun hsk7 => ?_)
        · (first | assumption | (apply Sat.drew; assumption) | (apply Sat.pick; assumption; (repeat (first | exact Pick.nil _ | with_reducible exact Pick.tail _ | with_reducible exact Out.here _ | apply Out.there | apply Pick.cons | apply Pick.drop))))
        clear hKp Kp
        have hsz7 := hs7
        (try simp only [Act.put, aP, aZ, aS])
        refine rg_one (i := 3) (by kernel_rfl) rfl rfl (fun Kp hKp => ?_)
        go_simp
        (refine (hWB _ _ (by assumption) (by (repeat (first | exact Pick.nil _ | exact Pick.tail _ | exact Out.here _ | apply Out.there | apply Pick.cons | apply Pick.drop)))).mono ?_; rintro e9 w9 ⟨WB, wcb, rfl, hEB, hs9⟩; simp only at hEB ⊢)
        (try go_wp2_with fail)
        refine rg_back (hK := hKp) ?_ (fun hsk9 => ?_)
        · (first | assumption | (apply Sat.drew; assumption) | (apply Sat.pick; assumption; (repeat (first | exact Pick.nil _ | with_reducible exact Pick.tail _ | with_reducible exact Out.here _ | apply Out.there | apply Pick.cons | apply Pick.drop))))
        clear hKp Kp
        have hsz9 := hs9
        (try simp only [Act.put, aP, aZ, aS])
        refine rg_one (i := 4) (by kernel_rfl) rfl rfl (fun Kp hKp => ?_)
        (first | ((with_reducible apply st_storeAll); assumption; rfl; (go_simp; rfl); (repeat (first | with_reducible exact Out.here _ | apply Out.there)); rfl; (focus (first | (simp [Value.oneCell']; done) | (simp [Value.cells, Value.oneCell']; done))); rfl; intro wr1_4 hsr1_4; simp only [Value.cells] at hsr1_4) | ((with_reducible apply st_store); assumption; rfl; (go_simp; rfl); (repeat (first | with_reducible exact Out.here _ | apply Out.there)); rfl; (first | (focus (simp [Value.oneCell']; done)) | (simp [Value.cells, Value.oneCell'])); (first | (focus (simp; done)) | (simp [Value.cells])); intro wr1_4 hsr1_4; simp only [upd, Value.cells] at hsr1_4))
        refine rg_back (hK := hKp) ?_ (fun hskr1_4 => ?_)
        · (first | assumption | (apply Sat.drew; assumption) | (apply Sat.pick; assumption; (repeat (first | exact Pick.nil _ | with_reducible exact Pick.tail _ | with_reducible exact Out.here _ | apply Out.there | apply Pick.cons | apply Pick.drop))))
        clear hKp Kp
        have hszr1_4 := hsr1_4
        (try dsimp only [Act.put])
        refine rg_one (i := 5) (by kernel_rfl) rfl rfl (fun Kp hKp => ?_)
        (first | ((with_reducible apply st_storeAll); assumption; rfl; (go_simp; rfl); (repeat (first | with_reducible exact Out.here _ | apply Out.there)); rfl; (focus (first | (simp [Value.oneCell']; done) | (simp [Value.cells, Value.oneCell']; done))); rfl; intro wr1_5 hsr1_5; simp only [Value.cells] at hsr1_5) | ((with_reducible apply st_store); assumption; rfl; (go_simp; rfl); (repeat (first | with_reducible exact Out.here _ | apply Out.there)); rfl; (first | (focus (simp [Value.oneCell']; done)) | (simp [Value.cells, Value.oneCell'])); (first | (focus (simp; done)) | (simp [Value.cells])); intro wr1_5 hsr1_5; simp only [upd, Value.cells] at hsr1_5))
        refine rg_back (hK := hKp) ?_ (fun hskr1_5 => ?_)
        · (first | assumption | (apply Sat.drew; assumption) | (apply Sat.pick; assumption; (repeat (first | exact Pick.nil _ | with_reducible exact Pick.tail _ | with_reducible exact Out.here _ | apply Out.there | apply Pick.cons | apply Pick.drop))))
        clear hKp Kp
        have hszr1_5 := hsr1_5
        (try dsimp only [Act.put])
        refine rg_done (by kernel_rfl) ?_
        refine (by assumption : ∀ a' w', Met _ a' w' → _) _ _ ?_
        go_meet
        case rel => exact ⟨WA, WB, wca, wcb, hEA, hEB, (by assumption : Sat w0 _ _).pick (by (repeat (first | exact Pick.nil _ | exact Pick.tail _ | exact Out.here _ | apply Out.there | apply Pick.cons | apply Pick.drop)))⟩
    · ((with_reducible apply st_loadAgg); assumption; rfl; (repeat (first | with_reducible exact Out.here _ | apply Out.there)); (simp); rfl)
      refine rg_back (hK := hKp) ?_ (fun hsk8 => ?_)
      · (first | assumption | (apply Sat.drew; assumption) | (apply Sat.pick; assumption; (repeat (first | exact Pick.nil _ | with_reducible exact Pick.tail _ | with_reducible exact Out.here _ | apply Out.there | apply Pick.cons | apply Pick.drop))))
      clear hKp Kp
      have hsz8 := hsr1
      (try simp only [Act.put, aP, aZ, aS])
      refine rg_one (i := 0) (by kernel_rfl) rfl rfl (fun Kp hKp => ?_)
      ((with_reducible apply st_loadAgg); assumption; rfl; (repeat (first | with_reducible exact Out.here _ | apply Out.there)); (simp); rfl)
      refine rg_back (hK := hKp) ?_ (fun hsk6 => ?_)
      · (first | assumption | (apply Sat.drew; assumption) | (apply Sat.pick; assumption; (repeat (first | exact Pick.nil _ | with_reducible exact Pick.tail _ | with_reducible exact Out.here _ | apply Out.there | apply Pick.cons | apply Pick.drop))))
      clear hKp Kp
      have hsz6 := hsr1
      (try simp only [Act.put, aP, aZ, aS])
      refine rg_one (i := 1) (by kernel_rfl) rfl rfl (fun Kp hKp => ?_)
      go_simp
      (refine (hWA _ _ (by assumption) (by (repeat (first | exact Pick.nil _ | exact Pick.tail _ | exact Out.here _ | apply Out.there | apply Pick.cons | apply Pick.drop)))).mono ?_; rintro e7 w7 ⟨WA, wca, rfl, hEA, hs7⟩; simp only at hEA ⊢)
      (try go_wp2_with fail)
      refine rg_back (hK := hKp) ?_ (fun hsk7 => ?_)
      · (first | assumption | (apply Sat.drew; assumption) | (apply Sat.pick; assumption; (repeat (first | exact Pick.nil _ | with_reducible exact Pick.tail _ | with_reducible exact Out.here _ | apply Out.there | apply Pick.cons | apply Pick.drop))))
      clear hKp Kp
      have hsz7 := hs7
      (try simp only [Act.put, aP, aZ, aS])
      refine rg_one (i := 3) (by kernel_rfl) rfl rfl (fun Kp hKp => ?_)
      go_simp
      (refine (hWB _ _ (by assumption) (by (repeat (first | exact Pick.nil _ | exact Pick.tail _ | exact Out.here _ | apply Out.there | apply Pick.cons | apply Pick.drop)))).mono ?_; rintro e9 w9 ⟨WB, wcb, rfl, hEB, hs9⟩; simp only at hEB ⊢)
      (try go_wp2_with fail)
      refine rg_back (hK := hKp) ?_ (fun hsk9 => ?_)
      · (first | assumption | (apply Sat.drew; assumption) | (apply Sat.pick; assumption; (repeat (first | exact Pick.nil _ | with_reducible exact Pick.tail _ | with_reducible exact Out.here _ | apply Out.there | apply Pick.cons | apply Pick.drop))))
      clear hKp Kp
      have hsz9 := hs9
      (try simp only [Act.put, aP, aZ, aS])
      refine rg_one (i := 4) (by kernel_rfl) rfl rfl (fun Kp hKp => ?_)
      (first | ((with_reducible apply st_storeAll); assumption; rfl; (go_simp; rfl); (repeat (first | with_reducible exact Out.here _ | apply Out.there)); rfl; (focus (first | (simp [Value.oneCell']; done) | (simp [Value.cells, Value.oneCell']; done))); rfl; intro wr1_4 hsr1_4; simp only [Value.cells] at hsr1_4) | ((with_reducible apply st_store); assumption; rfl; (go_simp; rfl); (repeat (first | with_reducible exact Out.here _ | apply Out.there)); rfl; (first | (focus (simp [Value.oneCell']; done)) | (simp [Value.cells, Value.oneCell'])); (first | (focus (simp; done)) | (simp [Value.cells])); intro wr1_4 hsr1_4; simp only [upd, Value.cells] at hsr1_4))
      refine rg_back (hK := hKp) ?_ (fun hskr1_4 => ?_)
      · (first | assumption | (apply Sat.drew; assumption) | (apply Sat.pick; assumption; (repeat (first | exact Pick.nil _ | with_reducible exact Pick.tail _ | with_reducible exact Out.here _ | apply Out.there | apply Pick.cons | apply Pick.drop))))
      clear hKp Kp
      have hszr1_4 := hsr1_4
      (try dsimp only [Act.put])
      refine rg_one (i := 5) (by kernel_rfl) rfl rfl (fun Kp hKp => ?_)
      (first | ((with_reducible apply st_storeAll); assumption; rfl; (go_simp; rfl); (repeat (first | with_reducible exact Out.here _ | apply Out.there)); rfl; (focus (first | (simp [Value.oneCell']; done) | (simp [Value.cells, Value.oneCell']; done))); rfl; intro wr1_5 hsr1_5; simp only [Value.cells] at hsr1_5) | ((with_reducible apply st_store); assumption; rfl; (go_simp; rfl); (repeat (first | with_reducible exact Out.here _ | apply Out.there)); rfl; (first | (focus (simp [Value.oneCell']; done)) | (simp [Value.cells, Value.oneCell'])); (first | (focus (simp; done)) | (simp [Value.cells])); intro wr1_5 hsr1_5; simp only [upd, Value.cells] at hsr1_5))
      refine rg_back (hK := hKp) ?_ (fun hskr1_5 => ?_)
      · (first | assumption | (apply Sat.drew; assumption) | (apply Sat.pick; assumption; (repeat (first | exact Pick.nil _ | with_reducible exact Pick.tail _ | with_reducible exact Out.here _ | apply Out.there | apply Pick.cons | apply Pick.drop))))
      clear hKp Kp
      have hszr1_5 := hsr1_5
      (try dsimp only [Act.put])
      refine rg_done (by kernel_rfl) ?_
      refine (by assumption : ∀ a' w', Met _ a' w' → _) _ _ ?_
      go_meet
      case rel => exact ⟨WA, WB, wca, wcb, hEA, hEB, (by assumption : Sat w0 _ _).pick (by (repeat (first | exact Pick.nil _ | exact Pick.tail _ | exact Out.here _ | apply Out.there | apply Pick.cons | apply Pick.drop)))⟩
  case rest =>
    obtain ⟨WA, WB, wca, wcb, hEA, hEB, hsA⟩ := hcut
    clear hWA hWB
    refine hK1.out _ _ ?_
    clear hK1 K1
    refine wk_seq (fun K2 hK2 => ?_)
    refine wk_reg ?_
    refine pl_eff rfl (fun Kp hKp => ?_)
    ((with_reducible apply st_alloc); assumption; intro b5 w5 hs5; simp only [Value.cells] at hs5)
    refine hKp.out _ _ ?_
    clear hKp Kp
    (try simp only [Act.put, aP, aZ, aS])
    refine pl_eff rfl (fun Kp hKp => ?_)
    (first | ((with_reducible apply st_store1); assumption; rfl; (go_simp; rfl); (repeat (first | with_reducible exact Out.here _ | apply Out.there)); rfl; rfl; simp; intro wr2_1 hsr2_1; (try simp only [aP] at hsr2_1); (try simp only [aS] at hsr2_1); (try simp only [aZ] at hsr2_1)) | ((with_reducible apply st_store_own); assumption; rfl; (go_simp; rfl); (repeat (first | with_reducible exact Out.here _ | apply Out.there)); rfl; rfl; omega; intro wr2_1 hsr2_1))
    refine hKp.out _ _ ?_
    clear hKp Kp
    (try dsimp only [Act.put])
    refine pl_done ?_
    refine hK2.out _ _ ?_
    (try clear hK2 K2)
    refine wk_seq (fun K3 hK3 => ?_)
    refine wk_reg ?_
    iterate 3 (refine pl_take (v := ?_) rfl ?_ ?_; rotate_left; (· (first | (first | ((with_reducible apply yl_loadAgg); assumption; rfl; (repeat (first | with_reducible exact Out.here _ | apply Out.there)); (simp); rfl; rfl) | ((with_reducible apply yl_loadAggR); assumption; rfl; (repeat (first | with_reducible assumption | with_reducible exact Rd.own | with_reducible exact Rd.nil | with_reducible apply Rd.cons)); rfl)) | (go_simp; first | done | with_reducible rfl | rfl | omega | assumption | (simp; omega)))); (try simp only [Act.put, aP, aZ, aS]))
    refine pl_eff rfl (fun Kp hKp => ?_)
    go_simp
    (refine (hM _ _ _ _ _ _ _ ((by assumption : Sat w0 _ _).pick (.cons (by (repeat (first | with_reducible exact Out.here _ | apply Out.there))) (.tail _))) ((SlV.mono EntV.mono).pick (by (repeat (first | exact Pick.nil _ | exact Pick.tail _ | exact Out.here _ | apply Out.there | apply Pick.cons | apply Pick.drop))) hEA) ((SlV.mono EntV.mono).pick (by (repeat (first | exact Pick.nil _ | exact Pick.tail _ | exact Out.here _ | apply Out.there | apply Pick.cons | apply Pick.drop))) hEB)).mono ?_; rintro e13 w13 ⟨rfl, hs13⟩)
    (try go_wp2_with fail)
    refine hKp.out _ _ ?_
    clear hKp Kp
    (try simp only [Act.put, aP, aZ, aS])
    refine pl_done ?_
    refine hK3.out _ _ ?_
    (try clear hK3 K3)
    refine wk_seq (fun K4 hK4 => ?_)
    refine wk_reg ?_
    iterate 3 (refine pl_take (v := ?_) rfl ?_ ?_; rotate_left; (· (first | (first | ((with_reducible apply yl_loadAgg); assumption; rfl; (repeat (first | with_reducible exact Out.here _ | apply Out.there)); (simp); rfl; rfl) | ((with_reducible apply yl_loadAggR); assumption; rfl; (repeat (first | with_reducible assumption | with_reducible exact Rd.own | with_reducible exact Rd.nil | with_reducible apply Rd.cons)); rfl)) | ((with_reducible apply yl_load); assumption; rfl; (repeat (first | with_reducible assumption | ((with_reducible apply Cl.own); exact rfl) | ((with_reducible apply Cl.blkL); exact rfl) | with_reducible apply Cl.cons)); rfl))); (try simp only [Act.put, aP, aZ, aS]))
    refine pl_eff rfl (fun Kp hKp => ?_)
    go_simp
    (refine (hD _ _ _ _ _ _ (by assumption) ((SlV.mono EntV.mono).pick (by (repeat (first | exact Pick.nil _ | exact Pick.tail _ | exact Out.here _ | apply Out.there | apply Pick.cons | apply Pick.drop))) hEA) ((SlV.mono EntV.mono).pick (by (repeat (first | exact Pick.nil _ | exact Pick.tail _ | exact Out.here _ | apply Out.there | apply Pick.cons | apply Pick.drop))) hEB)).mono ?_; rintro e17 w17 ⟨rfl, hs17⟩)
    (try go_wp2_with fail)
    refine hKp.out _ _ ?_
    clear hKp Kp
    (try simp only [Act.put, aP, aZ, aS])
    refine pl_take (v := ?_) rfl ?_ ?_
    rotate_left
    · (go_simp; first | done | with_reducible rfl | rfl | omega | assumption | (simp; omega))
    (try simp only [Act.put, aP, aZ, aS])
    refine pl_done ?_
    refine hK4.out _ _ ?_
    (try clear hK4 K4)
    refine wp_ret ?_
    go_ret
    exact ⟨rfl, (by assumption : Sat w0 _ _).pick (by (repeat (first | exact Pick.nil _ | exact Pick.tail _ | exact Out.here _ | apply Out.there | apply Pick.cons | apply Pick.drop)))⟩
end Go.Proofs.Ytcpcdhlfdabbnaa
