/-
  What is read in two pieces: MachineReads, the walk, first half: the puts.
-/
import Derived.Test.YtdlimjcidblneaaMr2
import Derived.Test.YtdlimjcidblneaaWk
import Derived.Deep.CutRange
namespace Go.Proofs.Ytdlimjcidblneaa
open Go Go.RowKit Sl Go.Shelf Go.Deep
set_option maxHeartbeats 20000000
set_option maxRecDepth 8000


def BytesCV : IsV (List UInt8) := fun R cs x => ∃ A c, cs = [.slice A x.length c] ∧ x.length ≤ c ∧ R A x.length 1 (B8 x)
theorem BytesCV.mono : IsV.Mono BytesCV := fun _ _ h _ _ ⟨A, c, e, hc, hr⟩ => ⟨A, c, e, hc, h _ _ _ _ hr⟩
abbrev strV (l : List UInt8) : Value := .string ⟨l.toArray⟩
/-- The strings of the first so many. -/
def strs (ls : List (List UInt8)) (k : Nat) : List Value := (ls.take k).map fun b => strV (cutB b)
theorem strs_snoc {ls : List (List UInt8)} {k : Nat} {b : List UInt8} (h : ls[k]? = some b) : strs ls (k + 1) = strs ls k ++ [strV (cutB b)] := by
  unfold strs; rw [take_snocM h]; simp

def DVr (w0 : World) (L : List HP) (zs : List RecRow) : Prop := ∀ z ∈ zs, Rd w0 L z.2.1 z.1.length 1 (B8 z.1)
theorem dvr_here {w0 : World} {L : List HP} {zs : List RecRow} : DVr w0 (DV (recData zs) :: L) zs := fun z hz => DV.rd (List.mem_map.2 ⟨z, hz, rfl⟩)
theorem dvr_cons {w0 : World} {p : HP} {L : List HP} {zs : List RecRow} (h : DVr w0 L zs) : DVr w0 (p :: L) zs := fun z hz => (h z hz).cons
theorem rec_one (zs : List RecRow) : ∀ u ∈ recCells zs, u.oneCell' = true := fun u hu => by obtain ⟨y, _, rfl⟩ := List.mem_map.1 hu; rfl
theorem bb_app {w0 : World} {L : List HP} {X : Option Addr} {n : Nat} {zA zB : List RecRow} {lA lB : List (List UInt8)} (hA : zA.map (·.1) = lA) (hB : zB.map (·.1) = lB) (hn : n = lA.length + lB.length) (h : Rd w0 L X n 1 (recCells zA ++ recCells zB)) (dA : DVr w0 L zA) (dB : DVr w0 L zB) : RdBB w0 L X n (lA ++ lB) := by
  subst hA hB
  have := rec_bb (zs := zA ++ zB) (n := n) (X := X) (w0 := w0) (L := L) (by rw [hn]; simp) (by simpa [recCells] using h) (fun z hz => by rcases List.mem_append.1 hz with hz | hz; exact dA z hz; exact dB z hz)
  rwa [List.map_append] at this
theorem bb_one {w0 : World} {L : List HP} {X : Option Addr} {n : Nat} {zA : List RecRow} {lA : List (List UInt8)} (hA : zA.map (·.1) = lA) (hn : n = zA.length) (h : Rd w0 L X n 1 (recCells zA)) (dA : DVr w0 L zA) : RdBB w0 L X n lA := by
  subst hA; exact rec_bb hn h dA
theorem tmodR_bound (x N : Int) (hN : 0 < N) : -N < x.tmod N ∧ x.tmod N < N := by
  rcases Int.le_total 0 x with h | h
  · rw [Int.tmod_eq_emod_of_nonneg h]
    have := Int.emod_nonneg x (by omega : N ≠ 0)
    have := Int.emod_lt_of_pos x hN
    omega
  · rw [show x = -(-x) from by omega, Int.neg_tmod, Int.tmod_eq_emod_of_nonneg (by omega)]
    have := Int.emod_nonneg (-x) (by omega : N ≠ 0)
    have := Int.emod_lt_of_pos (-x) hN
    omega
theorem tmodR_pos {x N : Int} (h : 0 ≤ x) (hN : 0 < N) : 0 ≤ x.tmod N ∧ x.tmod N < N := by
  rw [Int.tmod_eq_emod_of_nonneg h]; exact ⟨Int.emod_nonneg x (by omega : N ≠ 0), Int.emod_lt_of_pos x hN⟩

/-- Two pieces are what is read at once. -/
theorem read_two {M : Mc} (hst : M.st = 0) {f : Nat} (hf : f ≤ M.l.length) {n m : Nat} :
    M.read f n = ((M.l.drop f).take n, 0) ∧ ((M.l.drop f).take n).length ≤ M.l.length ∧
    M.read ((f : Int) + ((M.l.drop f).take n).length) m = ((M.l.drop (f + ((M.l.drop f).take n).length)).take m, 0) ∧
    M.read f (((M.l.drop f).take n).length + (m : Int)) = ((M.l.drop f).take n ++ (M.l.drop (f + ((M.l.drop f).take n).length)).take m, 0) := by
  have hl : ((M.l.drop f).take n).length ≤ M.l.length - f := by rw [List.length_take, List.length_drop]; omega
  refine ⟨?_, by omega, ?_, ?_⟩
  · unfold Mc.read; rw [hst, if_neg (by omega), if_neg (by omega)]; simp
  · unfold Mc.read
    rw [hst, if_neg (by omega), if_neg (by omega)]
    congr 1
  · unfold Mc.read
    rw [hst, if_neg (by omega), if_neg (by omega)]
    congr 1
    rw [show ((f : Int) - 0).toNat = f from by omega, show ((((M.l.drop f).take n).length : Int) + (m : Int)).toNat = ((M.l.drop f).take n).length + m from by omega]
    rw [List.take_add, List.drop_drop]
    congr 1
    simp

def rM0 : Mc := ⟨1073741824, 1, 0, [], [(1, ⟨0, 0, 1⟩)]⟩
theorem r0_eq : (Mc.new 1073741824).apply 1 cOpen = (⟨0, 1, 0, 0⟩, rM0) := by unfold Mc.apply; rw [cmd_open]; rfl


theorem machineReads_walk {w0 w : World} {L : List HP} {A : Option Addr} {c : Nat} (ls : List (List UInt8)) (fr n m to_ : Int) (hl : ls.length ≤ 1048576) (hd : ∀ b ∈ ls, b.length ≤ 1048576) (hs : Sat w0 w L) (hE : SlV BytesCV 1 (Rd w0 L) [.slice A ls.length c] ls) :
    Calls Try.prog 5 #[.slice A ls.length c, .int .i64 fr, .int .i64 n, .int .i64 m, .int .i64 to_] w (RetB w0 L true) := by
  obtain ⟨A', ca', vs, he1, hRv, hvl, hel⟩ := hE
  simp only [List.cons.injEq, Value.slice.injEq, and_true, true_and] at he1
  obtain ⟨rfl, rfl⟩ := he1
  have hO : cOpen.length ≤ 8 := num_len 1 (by omega)
  have hok0 : (Mc.new 1073741824).Ok := Mc.new_ok (by omega)
  have hA1 := fun (w : World) (L' : List HP) (p : Nat) (A : Option Addr) (c : Nat) (hs : Sat w0 w (MR p (Mc.new 1073741824) :: L')) (h : Rd w0 L' A cOpen.length 1 (B8 cOpen)) => apply_spec (c := c) 1 cOpen hok0 (by simp [Mc.new]) (by omega) hs h
  rw [r0_eq] at hA1
  unfold RetTold at hA1
  simp only at hA1
  have hOp := fun (w : World) (L' : List HP) (hs : Sat w0 w L') => openM_spec hs
  obtain ⟨co, hco⟩ : ∃ z, cOpen = z := ⟨_, rfl⟩
  rw [hco] at hA1 hOp
  clear hco hO
  go_enter Try.func5, Try.ntmps5
  refine wk_seq (fun K0 hK0 => ?_)
  refine wk_reg ?_
  refine pl_take (v := .bool false) rfl ?_ ?_
  · (go_simp; first | done | with_reducible rfl | rfl | omega | assumption | (simp; omega))
  (try simp only [Act.put, aP, aZ, aS])
  refine pl_done ?_
  refine hK0.out _ _ ?_
  (try clear hK0 K0)
  refine wk_seq (fun K1 hK1 => ?_)
  refine wk_reg ?_
  refine pl_eff rfl (fun Kp hKp => ?_)
  go_simp
  (refine (newM_spec 1073741824 (by omega) (by assumption)).mono ?_; rintro e36 w36 ⟨p, rfl, hs36⟩)
  (try go_wp2_with fail)
  refine hKp.out _ _ ?_
  clear hKp Kp
  (try simp only [Act.put, aP, aZ, aS])
  iterate 5 (refine pl_take (v := ?_) rfl ?_ ?_; rotate_left; (· (go_simp; first | done | with_reducible rfl | rfl | omega | assumption | (simp; omega))); (try simp only [Act.put, aP, aZ, aS]))
  refine pl_done ?_
  refine hK1.out _ _ ?_
  (try clear hK1 K1)
  refine wk_seq (fun K2 hK2 => ?_)
  refine wk_seq (fun K3 hK3 => ?_)
  refine wk_reg ?_
  refine pl_take (v := ?_) rfl ?_ ?_
  rotate_left
  · (go_simp; first | done | with_reducible rfl | rfl | omega | assumption | (simp; omega))
  (try simp only [Act.put, aP, aZ, aS])
  refine pl_eff rfl (fun Kp hKp => ?_)
  go_simp
  ((refine (numL_spec _ (by assumption)).mono ?_); rintro e40 w40 ⟨rfl, hs40⟩)
  (try go_wp2_with fail)
  refine hKp.out _ _ ?_
  clear hKp Kp
  (try simp only [Act.put, aP, aZ, aS])
  iterate 2 (refine pl_take (v := .bool false) rfl ?_ ?_; (· (go_simp; first | done | with_reducible rfl | rfl | omega | assumption | (simp; omega))); (try simp only [Act.put, aP, aZ, aS]))
  refine pl_take (v := ?_) (by kernel_rfl) ?_ ?_
  rotate_left
  · (go_simp; first | done | with_reducible rfl | rfl | omega | assumption | (simp; omega))
  (try simp only [Act.put, aP, aZ, aS])
  refine pl_take (v := .bool false) (by kernel_rfl) ?_ ?_
  · (go_simp; first | done | with_reducible rfl | rfl | omega | assumption | (simp; omega))
  (try simp only [Act.put, aP, aZ, aS])
  iterate 2 (refine pl_take (v := .bool false) rfl ?_ ?_; (· (go_simp; first | done | with_reducible rfl | rfl | omega | assumption | (simp; omega))); (try simp only [Act.put, aP, aZ, aS]))
  refine pl_eff (by kernel_rfl) (fun Kp hKp => ?_)
  go_simp
  (refine (knows08_spec (by assumption)).mono ?_; rintro e47 w47 ⟨rfl, hs47⟩)
  (try go_wp2_with fail)
  refine hKp.out _ _ ?_
  clear hKp Kp
  (try simp only [Act.put, aP, aZ, aS])
  refine pl_take (v := .bool false) (by kernel_rfl) ?_ ?_
  · (go_simp; first | done | with_reducible rfl | rfl | omega | assumption | (simp; omega))
  (try simp only [Act.put, aP, aZ, aS])
  refine pl_take (v := .bool false) rfl ?_ ?_
  · (go_simp; first | done | with_reducible rfl | rfl | omega | assumption | (simp; omega))
  (try simp only [Act.put, aP, aZ, aS])
  refine pl_done ?_
  refine hK3.out _ _ ?_
  (try clear hK3 K3)
  refine wp_cond_false rfl ?_
  refine wp_skip ?_
  refine hK2.out _ _ ?_
  (try clear hK2 K2)
  refine wk_seq (fun K5 hK5 => ?_)
  refine wk_reg ?_
  refine pl_take (v := ?_) rfl ?_ ?_
  rotate_left
  · (go_simp; first | done | with_reducible rfl | rfl | omega | assumption | (simp; omega))
  (try simp only [Act.put, aP, aZ, aS])
  refine pl_eff rfl (fun Kp hKp => ?_)
  go_simp
  (refine (hOp _ _ (by assumption)).mono ?_; rintro e52 w52 ⟨B52, c52, rfl, hs52⟩)
  (try go_wp2_with fail)
  refine hKp.out _ _ ?_
  clear hKp Kp
  (try simp only [Act.put, aP, aZ, aS])
  refine pl_eff rfl (fun Kp hKp => ?_)
  go_simp
  (refine (hA1 _ _ _ _ _ ((by assumption : Sat w0 _ _).pick (.cons (by (repeat (first | with_reducible exact Out.here _ | apply Out.there))) (.tail _))) (by (repeat (first | with_reducible assumption | with_reducible exact Rd.own | with_reducible exact Rd.nil | with_reducible apply Rd.cons)))).mono ?_; rintro e53 w53 ⟨rfl, hs53⟩)
  (try go_wp2_with fail)
  refine hKp.out _ _ ?_
  clear hKp Kp
  (try simp only [Act.put, aP, aZ, aS])
  iterate 3 (refine pl_take (v := ?_) rfl ?_ ?_; rotate_left; (· (go_simp; first | done | with_reducible rfl | rfl | omega | assumption | (simp; omega))); (try simp only [Act.put, aP, aZ, aS]))
  refine pl_eff rfl (fun Kp hKp => ?_)
  ((with_reducible apply st_alloc); assumption; intro b13 w13 hs13; simp only [Value.cells] at hs13)
  refine hKp.out _ _ ?_
  clear hKp Kp
  (try simp only [Act.put, aP, aZ, aS])
  refine pl_eff rfl (fun Kp hKp => ?_)
  (first | ((with_reducible apply st_storeAll); assumption; rfl; (go_simp; rfl); (repeat (first | with_reducible exact Out.here _ | apply Out.there)); rfl; (focus (first | (simp [Value.oneCell']; done) | (simp [Value.cells, Value.oneCell']; done))); rfl; intro wr4_7 hsr4_7; simp only [Value.cells] at hsr4_7) | ((with_reducible apply st_store); assumption; rfl; (go_simp; rfl); (repeat (first | with_reducible exact Out.here _ | apply Out.there)); rfl; (first | (focus (simp [Value.oneCell']; done)) | (simp [Value.cells, Value.oneCell'])); (first | (focus (simp; done)) | (simp [Value.cells])); intro wr4_7 hsr4_7; simp only [upd, Value.cells] at hsr4_7))
  refine hKp.out _ _ ?_
  clear hKp Kp
  (try dsimp only [Act.put])
  refine pl_take (v := ?_) rfl ?_ ?_
  rotate_left
  · (go_simp; first | done | with_reducible rfl | rfl | omega | assumption | (simp; omega))
  (try simp only [Act.put, aP, aZ, aS])
  refine pl_done ?_
  refine hK5.out _ _ ?_
  (try clear hK5 K5)
  refine wk_seq (fun K6 hK6 => ?_)
  refine wk_seq (fun K7 hK7 => ?_)
  refine rg_start rfl (by assumption) (fun wr5 hsr5 => ?_)
  refine rg_take (i := 0) (v := ?_) rfl (by kernel_rfl) (by kernel_rfl) (by kernel_rfl) (fun _ _ _ h => h) rfl (by assumption) ?_ ?_
  rotate_left
  · intro w hSw; (go_simp; first | done | with_reducible rfl | rfl | omega | assumption | (simp; omega))
  (try simp only [Act.put, aP, aZ, aS])
  refine rg_take (i := 2) (v := ?_) rfl (by kernel_rfl) (by kernel_rfl) (by kernel_rfl) (fun _ _ _ h => h) rfl (by assumption) ?_ ?_
  rotate_left
  · intro w hSw; (go_simp; first | done | with_reducible rfl | rfl | omega | assumption | (simp; omega))
  (try simp only [Act.put, aP, aZ, aS])
  refine rg_take (i := 3) (v := ?_) rfl (by kernel_rfl) (by kernel_rfl) (by kernel_rfl) (fun _ _ _ h => h) rfl (by assumption) ?_ ?_
  rotate_left
  · intro w hSw; ((with_reducible apply yl_load); assumption; rfl; (repeat (first | with_reducible assumption | ((with_reducible apply Cl.own); exact rfl) | ((with_reducible apply Cl.blkL); exact rfl) | with_reducible apply Cl.cons)); rfl)
  (try simp only [Act.put, aP, aZ, aS])
  refine rg_one (i := 1) (by kernel_rfl) rfl rfl (fun Kp hKp => ?_)
  go_simp
  ((refine (numL_spec _ (by assumption)).mono ?_); rintro e57 w57 ⟨rfl, hs57⟩)
  (try go_wp2_with fail)
  refine rg_back (hK := hKp) ?_ (fun hsk57 => ?_)
  · (first | assumption | (apply Sat.drew; assumption) | (apply Sat.pick; assumption; (repeat (first | exact Pick.nil _ | with_reducible exact Pick.tail _ | with_reducible exact Out.here _ | apply Out.there | apply Pick.cons | apply Pick.drop))))
  clear hKp Kp
  have hsz57 := hs57
  (try simp only [Act.put, aP, aZ, aS])
  refine rg_one (i := 4) (by kernel_rfl) rfl rfl (fun Kp hKp => ?_)
  go_simp
  ((refine (numL_spec _ (by assumption)).mono ?_); rintro e60 w60 ⟨rfl, hs60⟩)
  (try go_wp2_with fail)
  refine rg_back (hK := hKp) ?_ (fun hsk60 => ?_)
  · (first | assumption | (apply Sat.drew; assumption) | (apply Sat.pick; assumption; (repeat (first | exact Pick.nil _ | with_reducible exact Pick.tail _ | with_reducible exact Out.here _ | apply Out.there | apply Pick.cons | apply Pick.drop))))
  clear hKp Kp
  have hsz60 := hs60
  (try simp only [Act.put, aP, aZ, aS])
  refine rg_take (i := 5) (v := ?_) rfl (by kernel_rfl) (by kernel_rfl) (by kernel_rfl) (fun _ _ _ h => h) rfl (by assumption) ?_ ?_
  rotate_left
  · intro w hSw; (go_simp; first | done | with_reducible rfl | rfl | omega | assumption | (simp; omega))
  (try simp only [Act.put, aP, aZ, aS])
  refine rg_take (i := 6) (v := .bool false) rfl (by kernel_rfl) (by kernel_rfl) (by kernel_rfl) (fun _ _ _ h => h) rfl (by assumption) ?_ ?_
  · intro w hSw; (go_simp; first | done | with_reducible rfl | rfl | omega | assumption | (simp; omega))
  (try simp only [Act.put, aP, aZ, aS])
  refine rg_done (by kernel_rfl) ?_
  refine hK7.out _ _ ?_
  (try clear hK7 K7)
  refine wp_cond_false rfl ?_
  refine wp_skip ?_
  refine hK6.out _ _ ?_
  (try clear hK6 K6)
  refine wk_seq (fun K9 hK9 => ?_)
  refine wk_reg ?_
  refine pl_take (v := ?_) rfl ?_ ?_
  rotate_left
  · (go_simp; first | done | with_reducible rfl | rfl | omega | assumption | (simp; omega))
  (try simp only [Act.put, aP, aZ, aS])
  refine pl_done ?_
  refine hK9.out _ _ ?_
  (try clear hK9 K9)
  refine wk_seq (fun K10 hK10 => ?_)
  -- at a cut
  go_cut [15] from 16 to 117 (fun s15 w => ∃ (k : Nat) (M : Mc) (X : Option Addr) (cx : Nat), s15 = .slice X k cx ∧ k ≤ ls.length ∧ k ≤ 60 ∧ Hid (Rds k M ls) ∧ Sat w0 w (MR p M :: own 9 1 X cx k (strs ls k) :: L))
  case first =>
    refine wk_seq (fun K11 hK11 => ?_)
    refine wk_reg ?_
    refine pl_take (v := ?_) rfl ?_ ?_
    rotate_left
    · (go_simp; first | done | with_reducible rfl | rfl | omega | assumption | (simp; omega))
    (try simp only [Act.put, aP, aZ, aS])
    refine pl_done ?_
    refine hK11.out _ _ ?_
    (try clear hK11 K11)
    refine wp_block ?_
    -- at a loop
    go_loopg [15, 16] (ls.length) (fun g s15 s16 wr => ∃ (k : Nat) (M : Mc) (X : Option Addr) (cx : Nat), s15 = .slice X k cx ∧ s16 = .int .i64 k ∧ ls.length - k ≤ g ∧ k ≤ ls.length ∧ k ≤ 60 ∧ Hid (Rds k M ls) ∧ Sat w0 wr (MR p M :: own 9 1 X cx k (strs ls k) :: L))
    case atStart => exact ⟨0, rM0, none, 0, rfl, rfl, by omega, Nat.zero_le _, by omega, Rds.start ls, (((by assumption : Sat w0 w60 _).pick (T := MR p rM0 :: L) (by (repeat (first | exact Pick.nil _ | exact Pick.tail _ | exact Out.here _ | apply Out.there | apply Pick.cons | apply Pick.drop)))).own_nil 9 1).pick (by (repeat (first | exact Pick.nil _ | exact Pick.tail _ | exact Out.here _ | apply Out.there | apply Pick.cons | apply Pick.drop)))⟩
    case round =>
      clear hA1 hOp hok0
      obtain ⟨k, M, X, cx, rfl, rfl, hgk, hk, hk2, Hon, hsC⟩ := hrel
      by_cases hlt : k < ls.length
      · by_cases hlt2 : k < 60
        · obtain ⟨b, hb⟩ : ∃ b, ls[k]? = some b := ⟨ls[k], List.getElem?_eq_getElem hlt⟩
          obtain ⟨B, cb, ex, hcb, hrb⟩ := hel k b hb
          obtain ⟨ga, oa, rfl⟩ := hRv.some_of hs (by omega)
          have hrow := hRv.row_at k hlt
          rw [ex] at hrow
          have hc0 : Cl w0 L ⟨ga, oa + k, none⟩ (.slice B b.length cb) := by simpa using hrow.cell_at (j := 0) rfl
          have hbl := hd b (List.mem_of_getElem? hb)
          obtain ⟨M', hap, hon'⟩ := reads_put Hon.out hlt2 hb
          have hMok := Hon.out.ok hk2
          have hMl : M.l.length ≤ 60 := by rw [Hon.out.l]; simp; omega
          have hs1 := strs_snoc hb
          have i0 : (0 : Int) ≤ (k : Int) := by omega
          have i1 : (k : Int) < (ls.length : Int) := by omega
          have i2 : (k : Int) < 60 := by omega
          have hwk : IntKind.i64.wrap ((k : Int) + 1) = (k : Int) + 1 := IntWalk.i64_in _ (by omega)
          have hwk2 : IntKind.i64.wrap ((k : Int) + 2) = (k : Int) + 2 := IntWalk.i64_in _ (by omega)
          have Hon' := Hid.mk' hon'
          obtain ⟨d, hcd⟩ : ∃ d, cutB b = d := ⟨_, rfl⟩
          rw [hcd] at hap hs1
          have Hs := Hid.mk' hs1
          have hdl : d.length ≤ 1024 := by rw [← hcd]; unfold cutB; simp; omega
          have hPt := fun (w : World) (L' : List HP) (A : Option Addr) (c : Nat) (hs : Sat w0 w L') (h : Rd w0 L' A d.length 1 (B8 d)) => putM_spec (c := c) 1 ((k : Int) + 1) d (by omega) hs h
          rw [show putC 1 ((k : Int) + 1) d = (cPut 1 ((k : Int) + 1) d, 0) from by unfold putC; rw [if_neg (by simp [okNum]; omega), if_neg (by omega)]] at hPt
          have hpl := cPut_len 1 ((k : Int) + 1) d (by omega) (by omega) (by omega)
          have hA := fun (w : World) (L' : List HP) (A : Option Addr) (c : Nat) (hs : Sat w0 w (MR p M :: L')) (h : Rd w0 L' A (cPut 1 ((k : Int) + 1) d).length 1 (B8 (cPut 1 ((k : Int) + 1) d))) => apply_spec (c := c) ((k : Int) + 2) (cPut 1 ((k : Int) + 1) d) hMok (by omega) (by omega) hs h
          rw [hap] at hA
          unfold RetTold at hA
          simp only at hA
          obtain ⟨co, hco⟩ : ∃ z, cPut 1 ((k : Int) + 1) d = z := ⟨_, rfl⟩
          rw [hco] at hPt hA
          have Hcd := Hid.mk' hcd
          clear hap hon' hs1 hcd hco hpl hMok ex hrow hb hel
          by_cases hlong : 1024 < b.length
          · have hlong' : (1024 : Int) < (b.length : Int) := by omega
            have hd1 : d.length = 1024 := by rw [← Hcd.out]; unfold cutB; simp; omega
            obtain ⟨BA, hBA⟩ : ∃ z, (if cb = 0 then B else B.map (·.add (0 * 1))) = z := ⟨_, rfl⟩
            have hrd : Rd w0 L BA d.length 1 (B8 d) := by
              have h5 := rd_win (l := 0) (h := 1024) (c := cb) (Nat.zero_le _) (by omega) hcb hrb
              rw [hBA] at h5
              rw [hd1, ← Hcd.out]
              simpa [cutB, B8] using h5
            have HBA := Hid.mk' hBA
            have Hd1 := Hid.mk' hd1
            clear hBA hd1
            refine wk_seq (fun K12 hK12 => ?_)
            refine wk_seq (fun K13 hK13 => ?_)
            refine wk_reg ?_
            iterate 3 (refine pl_take (v := ?_) rfl ?_ ?_; rotate_left; (· (go_simp; first | done | with_reducible rfl | rfl | omega | assumption | (simp; omega))); (try simp only [Act.put, aP, aZ, aS]))
            iterate 2 (refine pl_take (v := .bool true) rfl ?_ ?_; (· (go_simp; first | done | with_reducible rfl | rfl | omega | assumption | (simp; omega))); (try simp only [Act.put, aP, aZ, aS]))
            refine pl_take (v := ?_) (by kernel_rfl) ?_ ?_
            rotate_left
            · (go_simp; first | done | with_reducible rfl | rfl | omega | assumption | (simp; omega))
            (try simp only [Act.put, aP, aZ, aS])
            refine pl_take (v := .bool true) (by kernel_rfl) ?_ ?_
            · (go_simp; first | done | with_reducible rfl | rfl | omega | assumption | (simp; omega))
            (try simp only [Act.put, aP, aZ, aS])
            refine pl_take (v := .bool true) rfl ?_ ?_
            · (go_simp; first | done | with_reducible rfl | rfl | omega | assumption | (simp; omega))
            (try simp only [Act.put, aP, aZ, aS])
            refine pl_done ?_
            refine hK13.out _ _ ?_
            (try clear hK13 K13)
            refine wp_cond_true rfl ?_
            refine wp_skip ?_
            refine hK12.out _ _ ?_
            (try clear hK12 K12)
            refine wk_seq (fun K14 hK14 => ?_)
            refine wp_block ?_
            refine wk_seq (fun K15 hK15 => ?_)
            refine wk_reg ?_
            iterate 5 (refine pl_take (v := ?_) rfl ?_ ?_; rotate_left; (· (first | ((with_reducible apply yl_load); assumption; rfl; (repeat (first | with_reducible assumption | ((with_reducible apply Cl.own); exact rfl) | ((with_reducible apply Cl.blkL); exact rfl) | with_reducible apply Cl.cons)); rfl) | (go_simp; first | done | with_reducible rfl | rfl | omega | assumption | (simp; omega)))); (try simp only [Act.put, aP, aZ, aS]))
            refine pl_done ?_
            refine hK15.out _ _ ?_
            (try clear hK15 K15)
            refine wk_seq (fun K16 hK16 => ?_)
            refine wk_seq (fun K17 hK17 => ?_)
            refine wk_reg ?_
            iterate 2 (refine pl_take (v := ?_) rfl ?_ ?_; rotate_left; (· (go_simp; first | done | with_reducible rfl | rfl | omega | assumption | (simp; omega))); (try simp only [Act.put, aP, aZ, aS]))
            refine pl_take (v := .bool true) rfl ?_ ?_
            · (go_simp; first | done | with_reducible rfl | rfl | omega | assumption | (simp; omega))
            (try simp only [Act.put, aP, aZ, aS])
            refine pl_done ?_
            refine hK17.out _ _ ?_
            (try clear hK17 K17)
            refine wp_cond_true rfl ?_
            refine wk_reg ?_
            refine pl_take (v := ?_) rfl ?_ ?_
            rotate_left
            · (go_simp; first | done | with_reducible rfl | rfl | omega | assumption | (simp; omega))
            (try simp only [Act.put, aP, aZ, aS])
            refine pl_take (v := (.slice BA d.length cb)) rfl ?_ ?_
            · ((with_reducible apply yl_sliceHi 1024); rfl; rfl; rfl; omega; omega; rw [HBA.out, Hd1.out])
            (try simp only [Act.put, aP, aZ, aS])
            refine pl_take (v := ?_) rfl ?_ ?_
            rotate_left
            · (go_simp; first | done | with_reducible rfl | rfl | omega | assumption | (simp; omega))
            (try simp only [Act.put, aP, aZ, aS])
            refine pl_done ?_
            refine hK16.out _ _ ?_
            (try clear hK16 K16)
            refine wk_seq (fun K18 hK18 => ?_)
            refine wk_reg ?_
            iterate 3 (refine pl_take (v := ?_) rfl ?_ ?_; rotate_left; (· (go_simp; first | done | with_reducible rfl | rfl | omega | assumption | (simp; omega))); (try simp only [Act.put, aP, aZ, aS]))
            refine pl_eff rfl (fun Kp hKp => ?_)
            go_simp
            (refine (hPt _ _ _ _ (by assumption) (by (repeat (first | with_reducible assumption | with_reducible exact Rd.own | with_reducible exact Rd.nil | with_reducible apply Rd.cons)))).mono ?_; rintro e86 w86 ⟨B86, c86, rfl, hs86⟩; simp only at hs86 ⊢)
            (try go_wp2_with fail)
            refine hKp.out _ _ ?_
            clear hKp Kp
            (try simp only [Act.put, aP, aZ, aS])
            iterate 5 (refine pl_take (v := ?_) rfl ?_ ?_; rotate_left; (· (go_simp; first | done | with_reducible rfl | rfl | omega | assumption | (simp; omega))); (try simp only [Act.put, aP, aZ, aS]))
            refine pl_done ?_
            refine hK18.out _ _ ?_
            (try clear hK18 K18)
            refine wk_seq (fun K19 hK19 => ?_)
            refine wk_reg ?_
            iterate 4 (refine pl_take (v := ?_) rfl ?_ ?_; rotate_left; (· (go_simp; first | done | with_reducible rfl | rfl | omega | assumption | (simp; omega))); (try simp only [Act.put, aP, aZ, aS]))
            refine pl_eff rfl (fun Kp hKp => ?_)
            go_simp
            (refine (hA _ _ _ _ ((by assumption : Sat w0 _ _).pick (.cons (by (repeat (first | with_reducible exact Out.here _ | apply Out.there))) (.tail _))) (by (repeat (first | with_reducible assumption | with_reducible exact Rd.own | with_reducible exact Rd.nil | with_reducible apply Rd.cons)))).mono ?_; rintro e94 w94 ⟨rfl, hs94⟩)
            (try go_wp2_with fail)
            refine hKp.out _ _ ?_
            clear hKp Kp
            (try simp only [Act.put, aP, aZ, aS])
            iterate 3 (refine pl_take (v := ?_) rfl ?_ ?_; rotate_left; (· (go_simp; first | done | with_reducible rfl | rfl | omega | assumption | (simp; omega))); (try simp only [Act.put, aP, aZ, aS]))
            refine pl_eff rfl (fun Kp hKp => ?_)
            ((with_reducible apply st_alloc); assumption; intro b20 w20 hs20; simp only [Value.cells] at hs20)
            refine hKp.out _ _ ?_
            clear hKp Kp
            (try simp only [Act.put, aP, aZ, aS])
            refine pl_eff rfl (fun Kp hKp => ?_)
            (first | ((with_reducible apply st_storeAll); assumption; rfl; (go_simp; rfl); (repeat (first | with_reducible exact Out.here _ | apply Out.there)); rfl; (focus (first | (simp [Value.oneCell']; done) | (simp [Value.cells, Value.oneCell']; done))); rfl; intro wr15_9 hsr15_9; simp only [Value.cells] at hsr15_9) | ((with_reducible apply st_store); assumption; rfl; (go_simp; rfl); (repeat (first | with_reducible exact Out.here _ | apply Out.there)); rfl; (first | (focus (simp [Value.oneCell']; done)) | (simp [Value.cells, Value.oneCell'])); (first | (focus (simp; done)) | (simp [Value.cells])); intro wr15_9 hsr15_9; simp only [upd, Value.cells] at hsr15_9))
            refine hKp.out _ _ ?_
            clear hKp Kp
            (try dsimp only [Act.put])
            refine pl_take (v := ?_) rfl ?_ ?_
            rotate_left
            · (go_simp; first | done | with_reducible rfl | rfl | omega | assumption | (simp; omega))
            (try simp only [Act.put, aP, aZ, aS])
            refine pl_done ?_
            refine hK19.out _ _ ?_
            (try clear hK19 K19)
            refine wk_seq (fun K20 hK20 => ?_)
            refine wk_seq (fun K21 hK21 => ?_)
            refine rg_start rfl (by assumption) (fun wr16 hsr16 => ?_)
            refine rg_take (i := 0) (v := ?_) rfl (by kernel_rfl) (by kernel_rfl) (by kernel_rfl) (fun _ _ _ h => h) rfl (by assumption) ?_ ?_
            rotate_left
            · intro w hSw; (go_simp; first | done | with_reducible rfl | rfl | omega | assumption | (simp; omega))
            (try simp only [Act.put, aP, aZ, aS])
            refine rg_take (i := 2) (v := ?_) rfl (by kernel_rfl) (by kernel_rfl) (by kernel_rfl) (fun _ _ _ h => h) rfl (by assumption) ?_ ?_
            rotate_left
            · intro w hSw; (go_simp; first | done | with_reducible rfl | rfl | omega | assumption | (simp; omega))
            (try simp only [Act.put, aP, aZ, aS])
            refine rg_take (i := 5) (v := ?_) rfl (by kernel_rfl) (by kernel_rfl) (by kernel_rfl) (fun _ _ _ h => h) rfl (by assumption) ?_ ?_
            rotate_left
            · intro w hSw; (go_simp; first | done | with_reducible rfl | rfl | omega | assumption | (simp; omega))
            (try simp only [Act.put, aP, aZ, aS])
            refine rg_take (i := 6) (v := ?_) rfl (by kernel_rfl) (by kernel_rfl) (by kernel_rfl) (fun _ _ _ h => h) rfl (by assumption) ?_ ?_
            rotate_left
            · intro w hSw; ((with_reducible apply yl_load); assumption; rfl; (repeat (first | with_reducible assumption | ((with_reducible apply Cl.own); exact rfl) | ((with_reducible apply Cl.blkL); exact rfl) | with_reducible apply Cl.cons)); rfl)
            (try simp only [Act.put, aP, aZ, aS])
            refine rg_one (i := 1) (by kernel_rfl) rfl rfl (fun Kp hKp => ?_)
            go_simp
            ((refine (numL_spec _ (by assumption)).mono ?_); rintro e98 w98 ⟨rfl, hs98⟩)
            (try go_wp2_with fail)
            refine rg_back (hK := hKp) ?_ (fun hsk98 => ?_)
            · (first | assumption | (apply Sat.drew; assumption) | (apply Sat.pick; assumption; (repeat (first | exact Pick.nil _ | with_reducible exact Pick.tail _ | with_reducible exact Out.here _ | apply Out.there | apply Pick.cons | apply Pick.drop))))
            clear hKp Kp
            have hsz98 := hs98
            (try simp only [Act.put, aP, aZ, aS])
            refine rg_one (i := 3) (by kernel_rfl) rfl rfl (fun Kp hKp => ?_)
            go_simp
            ((refine (numL_spec _ (by assumption)).mono ?_); rintro e100 w100 ⟨rfl, hs100⟩)
            (try go_wp2_with fail)
            refine rg_back (hK := hKp) ?_ (fun hsk100 => ?_)
            · (first | assumption | (apply Sat.drew; assumption) | (apply Sat.pick; assumption; (repeat (first | exact Pick.nil _ | with_reducible exact Pick.tail _ | with_reducible exact Out.here _ | apply Out.there | apply Pick.cons | apply Pick.drop))))
            clear hKp Kp
            have hsz100 := hs100
            (try simp only [Act.put, aP, aZ, aS])
            refine rg_take (i := 4) (v := ?_) rfl (by kernel_rfl) (by kernel_rfl) (by kernel_rfl) (fun _ _ _ h => h) rfl (by assumption) ?_ ?_
            rotate_left
            · intro w hSw; (go_simp; first | done | with_reducible rfl | rfl | omega | assumption | (simp; omega))
            (try simp only [Act.put, aP, aZ, aS])
            refine rg_one (i := 7) (by kernel_rfl) rfl rfl (fun Kp hKp => ?_)
            go_simp
            ((refine (numL_spec _ (by assumption)).mono ?_); rintro e104 w104 ⟨rfl, hs104⟩)
            (try go_wp2_with fail)
            refine rg_back (hK := hKp) ?_ (fun hsk104 => ?_)
            · (first | assumption | (apply Sat.drew; assumption) | (apply Sat.pick; assumption; (repeat (first | exact Pick.nil _ | with_reducible exact Pick.tail _ | with_reducible exact Out.here _ | apply Out.there | apply Pick.cons | apply Pick.drop))))
            clear hKp Kp
            have hsz104 := hs104
            (try simp only [Act.put, aP, aZ, aS])
            refine rg_take (i := 8) (v := ?_) rfl (by kernel_rfl) (by kernel_rfl) (by kernel_rfl) (fun _ _ _ h => h) rfl (by assumption) ?_ ?_
            rotate_left
            · intro w hSw; (go_simp; first | done | with_reducible rfl | rfl | omega | assumption | (simp; omega))
            (try simp only [Act.put, aP, aZ, aS])
            refine rg_take (i := 9) (v := .bool false) rfl (by kernel_rfl) (by kernel_rfl) (by kernel_rfl) (fun _ _ _ h => h) rfl (by assumption) ?_ ?_
            · intro w hSw; (go_simp; first | done | with_reducible rfl | rfl | omega | assumption | (simp; omega))
            (try simp only [Act.put, aP, aZ, aS])
            refine rg_take (i := 10) (v := .bool false) rfl (by kernel_rfl) (by kernel_rfl) (by kernel_rfl) (fun _ _ _ h => h) rfl (by assumption) ?_ ?_
            · intro w hSw; (go_simp; first | done | with_reducible rfl | rfl | omega | assumption | (simp; omega))
            (try simp only [Act.put, aP, aZ, aS])
            refine rg_take (i := 11) (v := ?_) rfl (by kernel_rfl) (by kernel_rfl) (by kernel_rfl) (fun _ _ _ h => h) (by kernel_rfl) (by assumption) ?_ ?_
            rotate_left
            · intro w hSw; (go_simp; first | done | with_reducible rfl | rfl | omega | assumption | (simp; omega))
            (try simp only [Act.put, aP, aZ, aS])
            refine rg_take (i := 12) (v := ?_) rfl (by kernel_rfl) (by kernel_rfl) (by kernel_rfl) (fun _ _ _ h => h) (by kernel_rfl) (by assumption) ?_ ?_
            rotate_left
            · intro w hSw; ((with_reducible apply yl_load); assumption; rfl; (repeat (first | with_reducible assumption | ((with_reducible apply Cl.own); exact rfl) | ((with_reducible apply Cl.blkL); exact rfl) | with_reducible apply Cl.cons)); rfl)
            (try simp only [Act.put, aP, aZ, aS])
            refine rg_take (i := 13) (v := ?_) rfl (by kernel_rfl) (by kernel_rfl) (by kernel_rfl) (fun _ _ _ h => h) (by kernel_rfl) (by assumption) ?_ ?_
            rotate_left
            · intro w hSw; (go_simp; first | done | with_reducible rfl | rfl | omega | assumption | (simp; omega))
            (try simp only [Act.put, aP, aZ, aS])
            refine rg_take (i := 14) (v := .bool false) rfl (by kernel_rfl) (by kernel_rfl) (by kernel_rfl) (fun _ _ _ h => h) (by kernel_rfl) (by assumption) ?_ ?_
            · intro w hSw; (go_simp; first | done | with_reducible rfl | rfl | omega | assumption | (simp; omega))
            (try simp only [Act.put, aP, aZ, aS])
            refine rg_take (i := 15) (v := .bool false) rfl (by kernel_rfl) (by kernel_rfl) (by kernel_rfl) (fun _ _ _ h => h) rfl (by assumption) ?_ ?_
            · intro w hSw; (go_simp; first | done | with_reducible rfl | rfl | omega | assumption | (simp; omega))
            (try simp only [Act.put, aP, aZ, aS])
            refine rg_done (by kernel_rfl) ?_
            refine hK21.out _ _ ?_
            (try clear hK21 K21)
            refine wp_cond_false rfl ?_
            refine wp_skip ?_
            refine hK20.out _ _ ?_
            (try clear hK20 K20)
            refine wk_reg ?_
            iterate 3 (refine pl_take (v := ?_) rfl ?_ ?_; rotate_left; (· (first | (first | ((with_reducible apply yl_b2s); assumption; rfl; (repeat (first | with_reducible assumption | with_reducible exact Rd.own | with_reducible exact Rd.nil | with_reducible apply Rd.cons)); rfl) | (go_simp; first | done | with_reducible rfl | rfl | omega | assumption | (simp; omega))) | (go_simp; first | done | with_reducible rfl | rfl | omega | assumption | (simp; omega)))); (try simp only [Act.put, aP, aZ, aS]))
            refine pl_eff rfl (fun Kp hKp => ?_)
            ((with_reducible apply st_buildSlice); assumption; rfl; (go_simp; rfl); (simp [Value.cells]); omega; intro b116 w116 hs116)
            refine hKp.out _ _ ?_
            clear hKp Kp
            (try simp only [Act.put, aP, aZ, aS])
            refine pl_eff rfl (fun Kp hKp => ?_)
            ((with_reducible apply st_append); go_must (assumption; rfl; rfl; (repeat (first | with_reducible exact Out.here _ | apply Out.there)); (repeat (first | with_reducible assumption | with_reducible exact Rd.own | with_reducible exact Rd.nil | with_reducible apply Rd.cons)); (first | exact B8_one _ | exact I8_one _ | (simp [Value.oneCell'])); (first | omega | (simp only [maxLen]; omega)); omega; intro A117 c117 w117 hs117 hc117; (try ((refine hs117.own_elim ?_ ?_); omega; rintro g117 rfl)); try simp only [Nat.zero_add, List.nil_append] at hs117 hc117))
            refine hKp.out _ _ ?_
            clear hKp Kp
            (try simp only [Act.put, aP, aZ, aS])
            refine pl_take (v := ?_) rfl ?_ ?_
            rotate_left
            · (go_simp; first | done | with_reducible rfl | rfl | omega | assumption | (simp; omega))
            (try simp only [Act.put, aP, aZ, aS])
            refine pl_done ?_
            refine hK14.out _ _ ?_
            (try clear hK14 K14)
            refine wk_reg ?_
            iterate 3 (refine pl_take (v := ?_) rfl ?_ ?_; rotate_left; (· (go_simp; first | done | with_reducible rfl | rfl | omega | assumption | (simp; omega))); (try simp only [Act.put, aP, aZ, aS]))
            refine pl_done ?_
            (try dsimp only [Exit.inBlock, Exit.then])
            refine (by assumption : ∀ a' w', Handed _ _ a' w' → _) _ _ ?_
            go_roundg (gk - 1)
            case rel => exact ⟨k + 1, M', _, _, by go_num, by go_num, by omega, by omega, by omega, Hon', by rw [Hs.out]; exact (by assumption : Sat w0 _ _).pick (by (repeat (first | exact Pick.nil _ | exact Pick.tail _ | exact Out.here _ | apply Out.there | apply Pick.cons | apply Pick.drop)))⟩
            case measure => omega
          · have hlong' : ¬ (1024 : Int) < (b.length : Int) := by omega
            obtain rfl : b = d := by rw [← Hcd.out]; unfold cutB; rw [List.take_of_length_le (by omega)]
            refine wk_seq (fun K12 hK12 => ?_)
            refine wk_seq (fun K13 hK13 => ?_)
            refine wk_reg ?_
            iterate 3 (refine pl_take (v := ?_) rfl ?_ ?_; rotate_left; (· (go_simp; first | done | with_reducible rfl | rfl | omega | assumption | (simp; omega))); (try simp only [Act.put, aP, aZ, aS]))
            iterate 2 (refine pl_take (v := .bool true) rfl ?_ ?_; (· (go_simp; first | done | with_reducible rfl | rfl | omega | assumption | (simp; omega))); (try simp only [Act.put, aP, aZ, aS]))
            refine pl_take (v := ?_) (by kernel_rfl) ?_ ?_
            rotate_left
            · (go_simp; first | done | with_reducible rfl | rfl | omega | assumption | (simp; omega))
            (try simp only [Act.put, aP, aZ, aS])
            refine pl_take (v := .bool true) (by kernel_rfl) ?_ ?_
            · (go_simp; first | done | with_reducible rfl | rfl | omega | assumption | (simp; omega))
            (try simp only [Act.put, aP, aZ, aS])
            refine pl_take (v := .bool true) rfl ?_ ?_
            · (go_simp; first | done | with_reducible rfl | rfl | omega | assumption | (simp; omega))
            (try simp only [Act.put, aP, aZ, aS])
            refine pl_done ?_
            refine hK13.out _ _ ?_
            (try clear hK13 K13)
            refine wp_cond_true rfl ?_
            refine wp_skip ?_
            refine hK12.out _ _ ?_
            (try clear hK12 K12)
            refine wk_seq (fun K14 hK14 => ?_)
            refine wp_block ?_
            refine wk_seq (fun K15 hK15 => ?_)
            refine wk_reg ?_
            iterate 5 (refine pl_take (v := ?_) rfl ?_ ?_; rotate_left; (· (first | ((with_reducible apply yl_load); assumption; rfl; (repeat (first | with_reducible assumption | ((with_reducible apply Cl.own); exact rfl) | ((with_reducible apply Cl.blkL); exact rfl) | with_reducible apply Cl.cons)); rfl) | (go_simp; first | done | with_reducible rfl | rfl | omega | assumption | (simp; omega)))); (try simp only [Act.put, aP, aZ, aS]))
            refine pl_done ?_
            refine hK15.out _ _ ?_
            (try clear hK15 K15)
            refine wk_seq (fun K16 hK16 => ?_)
            refine wk_seq (fun K17 hK17 => ?_)
            refine wk_reg ?_
            iterate 2 (refine pl_take (v := ?_) rfl ?_ ?_; rotate_left; (· (go_simp; first | done | with_reducible rfl | rfl | omega | assumption | (simp; omega))); (try simp only [Act.put, aP, aZ, aS]))
            refine pl_take (v := .bool false) rfl ?_ ?_
            · (go_simp; first | done | with_reducible rfl | rfl | omega | assumption | (simp; omega))
            (try simp only [Act.put, aP, aZ, aS])
            refine pl_done ?_
            refine hK17.out _ _ ?_
            (try clear hK17 K17)
            refine wp_cond_false rfl ?_
            refine wp_skip ?_
            refine hK16.out _ _ ?_
            (try clear hK16 K16)
            refine wk_seq (fun K18 hK18 => ?_)
            refine wk_reg ?_
            iterate 3 (refine pl_take (v := ?_) rfl ?_ ?_; rotate_left; (· (go_simp; first | done | with_reducible rfl | rfl | omega | assumption | (simp; omega))); (try simp only [Act.put, aP, aZ, aS]))
            refine pl_eff rfl (fun Kp hKp => ?_)
            go_simp
            (refine (hPt _ _ _ _ (by assumption) (by (repeat (first | with_reducible assumption | with_reducible exact Rd.own | with_reducible exact Rd.nil | with_reducible apply Rd.cons)))).mono ?_; rintro e86 w86 ⟨B86, c86, rfl, hs86⟩; simp only at hs86 ⊢)
            (try go_wp2_with fail)
            refine hKp.out _ _ ?_
            clear hKp Kp
            (try simp only [Act.put, aP, aZ, aS])
            iterate 5 (refine pl_take (v := ?_) rfl ?_ ?_; rotate_left; (· (go_simp; first | done | with_reducible rfl | rfl | omega | assumption | (simp; omega))); (try simp only [Act.put, aP, aZ, aS]))
            refine pl_done ?_
            refine hK18.out _ _ ?_
            (try clear hK18 K18)
            refine wk_seq (fun K19 hK19 => ?_)
            refine wk_reg ?_
            iterate 4 (refine pl_take (v := ?_) rfl ?_ ?_; rotate_left; (· (go_simp; first | done | with_reducible rfl | rfl | omega | assumption | (simp; omega))); (try simp only [Act.put, aP, aZ, aS]))
            refine pl_eff rfl (fun Kp hKp => ?_)
            go_simp
            (refine (hA _ _ _ _ ((by assumption : Sat w0 _ _).pick (.cons (by (repeat (first | with_reducible exact Out.here _ | apply Out.there))) (.tail _))) (by (repeat (first | with_reducible assumption | with_reducible exact Rd.own | with_reducible exact Rd.nil | with_reducible apply Rd.cons)))).mono ?_; rintro e94 w94 ⟨rfl, hs94⟩)
            (try go_wp2_with fail)
            refine hKp.out _ _ ?_
            clear hKp Kp
            (try simp only [Act.put, aP, aZ, aS])
            iterate 3 (refine pl_take (v := ?_) rfl ?_ ?_; rotate_left; (· (go_simp; first | done | with_reducible rfl | rfl | omega | assumption | (simp; omega))); (try simp only [Act.put, aP, aZ, aS]))
            refine pl_eff rfl (fun Kp hKp => ?_)
            ((with_reducible apply st_alloc); assumption; intro b20 w20 hs20; simp only [Value.cells] at hs20)
            refine hKp.out _ _ ?_
            clear hKp Kp
            (try simp only [Act.put, aP, aZ, aS])
            refine pl_eff rfl (fun Kp hKp => ?_)
            (first | ((with_reducible apply st_storeAll); assumption; rfl; (go_simp; rfl); (repeat (first | with_reducible exact Out.here _ | apply Out.there)); rfl; (focus (first | (simp [Value.oneCell']; done) | (simp [Value.cells, Value.oneCell']; done))); rfl; intro wr15_9 hsr15_9; simp only [Value.cells] at hsr15_9) | ((with_reducible apply st_store); assumption; rfl; (go_simp; rfl); (repeat (first | with_reducible exact Out.here _ | apply Out.there)); rfl; (first | (focus (simp [Value.oneCell']; done)) | (simp [Value.cells, Value.oneCell'])); (first | (focus (simp; done)) | (simp [Value.cells])); intro wr15_9 hsr15_9; simp only [upd, Value.cells] at hsr15_9))
            refine hKp.out _ _ ?_
            clear hKp Kp
            (try dsimp only [Act.put])
            refine pl_take (v := ?_) rfl ?_ ?_
            rotate_left
            · (go_simp; first | done | with_reducible rfl | rfl | omega | assumption | (simp; omega))
            (try simp only [Act.put, aP, aZ, aS])
            refine pl_done ?_
            refine hK19.out _ _ ?_
            (try clear hK19 K19)
            refine wk_seq (fun K20 hK20 => ?_)
            refine wk_seq (fun K21 hK21 => ?_)
            refine rg_start rfl (by assumption) (fun wr16 hsr16 => ?_)
            refine rg_take (i := 0) (v := ?_) rfl (by kernel_rfl) (by kernel_rfl) (by kernel_rfl) (fun _ _ _ h => h) rfl (by assumption) ?_ ?_
            rotate_left
            · intro w hSw; (go_simp; first | done | with_reducible rfl | rfl | omega | assumption | (simp; omega))
            (try simp only [Act.put, aP, aZ, aS])
            refine rg_take (i := 2) (v := ?_) rfl (by kernel_rfl) (by kernel_rfl) (by kernel_rfl) (fun _ _ _ h => h) rfl (by assumption) ?_ ?_
            rotate_left
            · intro w hSw; (go_simp; first | done | with_reducible rfl | rfl | omega | assumption | (simp; omega))
            (try simp only [Act.put, aP, aZ, aS])
            refine rg_take (i := 5) (v := ?_) rfl (by kernel_rfl) (by kernel_rfl) (by kernel_rfl) (fun _ _ _ h => h) rfl (by assumption) ?_ ?_
            rotate_left
            · intro w hSw; (go_simp; first | done | with_reducible rfl | rfl | omega | assumption | (simp; omega))
            (try simp only [Act.put, aP, aZ, aS])
            refine rg_take (i := 6) (v := ?_) rfl (by kernel_rfl) (by kernel_rfl) (by kernel_rfl) (fun _ _ _ h => h) rfl (by assumption) ?_ ?_
            rotate_left
            · intro w hSw; ((with_reducible apply yl_load); assumption; rfl; (repeat (first | with_reducible assumption | ((with_reducible apply Cl.own); exact rfl) | ((with_reducible apply Cl.blkL); exact rfl) | with_reducible apply Cl.cons)); rfl)
            (try simp only [Act.put, aP, aZ, aS])
            refine rg_one (i := 1) (by kernel_rfl) rfl rfl (fun Kp hKp => ?_)
            go_simp
            ((refine (numL_spec _ (by assumption)).mono ?_); rintro e98 w98 ⟨rfl, hs98⟩)
            (try go_wp2_with fail)
            refine rg_back (hK := hKp) ?_ (fun hsk98 => ?_)
            · (first | assumption | (apply Sat.drew; assumption) | (apply Sat.pick; assumption; (repeat (first | exact Pick.nil _ | with_reducible exact Pick.tail _ | with_reducible exact Out.here _ | apply Out.there | apply Pick.cons | apply Pick.drop))))
            clear hKp Kp
            have hsz98 := hs98
            (try simp only [Act.put, aP, aZ, aS])
            refine rg_one (i := 3) (by kernel_rfl) rfl rfl (fun Kp hKp => ?_)
            go_simp
            ((refine (numL_spec _ (by assumption)).mono ?_); rintro e100 w100 ⟨rfl, hs100⟩)
            (try go_wp2_with fail)
            refine rg_back (hK := hKp) ?_ (fun hsk100 => ?_)
            · (first | assumption | (apply Sat.drew; assumption) | (apply Sat.pick; assumption; (repeat (first | exact Pick.nil _ | with_reducible exact Pick.tail _ | with_reducible exact Out.here _ | apply Out.there | apply Pick.cons | apply Pick.drop))))
            clear hKp Kp
            have hsz100 := hs100
            (try simp only [Act.put, aP, aZ, aS])
            refine rg_take (i := 4) (v := ?_) rfl (by kernel_rfl) (by kernel_rfl) (by kernel_rfl) (fun _ _ _ h => h) rfl (by assumption) ?_ ?_
            rotate_left
            · intro w hSw; (go_simp; first | done | with_reducible rfl | rfl | omega | assumption | (simp; omega))
            (try simp only [Act.put, aP, aZ, aS])
            refine rg_one (i := 7) (by kernel_rfl) rfl rfl (fun Kp hKp => ?_)
            go_simp
            ((refine (numL_spec _ (by assumption)).mono ?_); rintro e104 w104 ⟨rfl, hs104⟩)
            (try go_wp2_with fail)
            refine rg_back (hK := hKp) ?_ (fun hsk104 => ?_)
            · (first | assumption | (apply Sat.drew; assumption) | (apply Sat.pick; assumption; (repeat (first | exact Pick.nil _ | with_reducible exact Pick.tail _ | with_reducible exact Out.here _ | apply Out.there | apply Pick.cons | apply Pick.drop))))
            clear hKp Kp
            have hsz104 := hs104
            (try simp only [Act.put, aP, aZ, aS])
            refine rg_take (i := 8) (v := ?_) rfl (by kernel_rfl) (by kernel_rfl) (by kernel_rfl) (fun _ _ _ h => h) rfl (by assumption) ?_ ?_
            rotate_left
            · intro w hSw; (go_simp; first | done | with_reducible rfl | rfl | omega | assumption | (simp; omega))
            (try simp only [Act.put, aP, aZ, aS])
            refine rg_take (i := 9) (v := .bool false) rfl (by kernel_rfl) (by kernel_rfl) (by kernel_rfl) (fun _ _ _ h => h) rfl (by assumption) ?_ ?_
            · intro w hSw; (go_simp; first | done | with_reducible rfl | rfl | omega | assumption | (simp; omega))
            (try simp only [Act.put, aP, aZ, aS])
            refine rg_take (i := 10) (v := .bool false) rfl (by kernel_rfl) (by kernel_rfl) (by kernel_rfl) (fun _ _ _ h => h) rfl (by assumption) ?_ ?_
            · intro w hSw; (go_simp; first | done | with_reducible rfl | rfl | omega | assumption | (simp; omega))
            (try simp only [Act.put, aP, aZ, aS])
            refine rg_take (i := 11) (v := ?_) rfl (by kernel_rfl) (by kernel_rfl) (by kernel_rfl) (fun _ _ _ h => h) (by kernel_rfl) (by assumption) ?_ ?_
            rotate_left
            · intro w hSw; (go_simp; first | done | with_reducible rfl | rfl | omega | assumption | (simp; omega))
            (try simp only [Act.put, aP, aZ, aS])
            refine rg_take (i := 12) (v := ?_) rfl (by kernel_rfl) (by kernel_rfl) (by kernel_rfl) (fun _ _ _ h => h) (by kernel_rfl) (by assumption) ?_ ?_
            rotate_left
            · intro w hSw; ((with_reducible apply yl_load); assumption; rfl; (repeat (first | with_reducible assumption | ((with_reducible apply Cl.own); exact rfl) | ((with_reducible apply Cl.blkL); exact rfl) | with_reducible apply Cl.cons)); rfl)
            (try simp only [Act.put, aP, aZ, aS])
            refine rg_take (i := 13) (v := ?_) rfl (by kernel_rfl) (by kernel_rfl) (by kernel_rfl) (fun _ _ _ h => h) (by kernel_rfl) (by assumption) ?_ ?_
            rotate_left
            · intro w hSw; (go_simp; first | done | with_reducible rfl | rfl | omega | assumption | (simp; omega))
            (try simp only [Act.put, aP, aZ, aS])
            refine rg_take (i := 14) (v := .bool false) rfl (by kernel_rfl) (by kernel_rfl) (by kernel_rfl) (fun _ _ _ h => h) (by kernel_rfl) (by assumption) ?_ ?_
            · intro w hSw; (go_simp; first | done | with_reducible rfl | rfl | omega | assumption | (simp; omega))
            (try simp only [Act.put, aP, aZ, aS])
            refine rg_take (i := 15) (v := .bool false) rfl (by kernel_rfl) (by kernel_rfl) (by kernel_rfl) (fun _ _ _ h => h) rfl (by assumption) ?_ ?_
            · intro w hSw; (go_simp; first | done | with_reducible rfl | rfl | omega | assumption | (simp; omega))
            (try simp only [Act.put, aP, aZ, aS])
            refine rg_done (by kernel_rfl) ?_
            refine hK21.out _ _ ?_
            (try clear hK21 K21)
            refine wp_cond_false rfl ?_
            refine wp_skip ?_
            refine hK20.out _ _ ?_
            (try clear hK20 K20)
            refine wk_reg ?_
            iterate 3 (refine pl_take (v := ?_) rfl ?_ ?_; rotate_left; (· (first | (first | ((with_reducible apply yl_b2s); assumption; rfl; (repeat (first | with_reducible assumption | with_reducible exact Rd.own | with_reducible exact Rd.nil | with_reducible apply Rd.cons)); rfl) | (go_simp; first | done | with_reducible rfl | rfl | omega | assumption | (simp; omega))) | (go_simp; first | done | with_reducible rfl | rfl | omega | assumption | (simp; omega)))); (try simp only [Act.put, aP, aZ, aS]))
            refine pl_eff rfl (fun Kp hKp => ?_)
            ((with_reducible apply st_buildSlice); assumption; rfl; (go_simp; rfl); (simp [Value.cells]); omega; intro b116 w116 hs116)
            refine hKp.out _ _ ?_
            clear hKp Kp
            (try simp only [Act.put, aP, aZ, aS])
            refine pl_eff rfl (fun Kp hKp => ?_)
            ((with_reducible apply st_append); go_must (assumption; rfl; rfl; (repeat (first | with_reducible exact Out.here _ | apply Out.there)); (repeat (first | with_reducible assumption | with_reducible exact Rd.own | with_reducible exact Rd.nil | with_reducible apply Rd.cons)); (first | exact B8_one _ | exact I8_one _ | (simp [Value.oneCell'])); (first | omega | (simp only [maxLen]; omega)); omega; intro A117 c117 w117 hs117 hc117; (try ((refine hs117.own_elim ?_ ?_); omega; rintro g117 rfl)); try simp only [Nat.zero_add, List.nil_append] at hs117 hc117))
            refine hKp.out _ _ ?_
            clear hKp Kp
            (try simp only [Act.put, aP, aZ, aS])
            refine pl_take (v := ?_) rfl ?_ ?_
            rotate_left
            · (go_simp; first | done | with_reducible rfl | rfl | omega | assumption | (simp; omega))
            (try simp only [Act.put, aP, aZ, aS])
            refine pl_done ?_
            refine hK14.out _ _ ?_
            (try clear hK14 K14)
            refine wk_reg ?_
            iterate 3 (refine pl_take (v := ?_) rfl ?_ ?_; rotate_left; (· (go_simp; first | done | with_reducible rfl | rfl | omega | assumption | (simp; omega))); (try simp only [Act.put, aP, aZ, aS]))
            refine pl_done ?_
            (try dsimp only [Exit.inBlock, Exit.then])
            refine (by assumption : ∀ a' w', Handed _ _ a' w' → _) _ _ ?_
            go_roundg (gk - 1)
            case rel => exact ⟨k + 1, M', _, _, by go_num, by go_num, by omega, by omega, by omega, Hon', by rw [Hs.out]; exact (by assumption : Sat w0 _ _).pick (by (repeat (first | exact Pick.nil _ | exact Pick.tail _ | exact Out.here _ | apply Out.there | apply Pick.cons | apply Pick.drop)))⟩
            case measure => omega
        · have i1 : (k : Int) < (ls.length : Int) := by omega
          have i2 : ¬ (k : Int) < 60 := by omega
          clear hel
          refine wk_seq (fun K12 hK12 => ?_)
          refine wk_seq (fun K13 hK13 => ?_)
          refine wk_reg ?_
          iterate 3 (refine pl_take (v := ?_) rfl ?_ ?_; rotate_left; (· (go_simp; first | done | with_reducible rfl | rfl | omega | assumption | (simp; omega))); (try simp only [Act.put, aP, aZ, aS]))
          iterate 2 (refine pl_take (v := .bool true) rfl ?_ ?_; (· (go_simp; first | done | with_reducible rfl | rfl | omega | assumption | (simp; omega))); (try simp only [Act.put, aP, aZ, aS]))
          refine pl_take (v := ?_) (by kernel_rfl) ?_ ?_
          rotate_left
          · (go_simp; first | done | with_reducible rfl | rfl | omega | assumption | (simp; omega))
          (try simp only [Act.put, aP, aZ, aS])
          refine pl_take (v := .bool false) (by kernel_rfl) ?_ ?_
          · (go_simp; first | done | with_reducible rfl | rfl | omega | assumption | (simp; omega))
          (try simp only [Act.put, aP, aZ, aS])
          refine pl_take (v := .bool false) rfl ?_ ?_
          · (go_simp; first | done | with_reducible rfl | rfl | omega | assumption | (simp; omega))
          (try simp only [Act.put, aP, aZ, aS])
          refine pl_done ?_
          refine hK13.out _ _ ?_
          (try clear hK13 K13)
          refine wp_cond_false rfl ?_
          refine wp_exit ?_
          refine (by assumption : ∀ a' w', Met _ a' w' → _) _ _ ?_
          go_meet
          case rel => exact ⟨k, M, X, cx, rfl, hk, hk2, Hon, (by assumption : Sat w0 _ _).pick (by (repeat (first | exact Pick.nil _ | exact Pick.tail _ | exact Out.here _ | apply Out.there | apply Pick.cons | apply Pick.drop)))⟩
      · have i1 : ¬ (k : Int) < (ls.length : Int) := by omega
        clear hel
        refine wk_seq (fun K12 hK12 => ?_)
        refine wk_seq (fun K13 hK13 => ?_)
        refine wk_reg ?_
        iterate 3 (refine pl_take (v := ?_) rfl ?_ ?_; rotate_left; (· (go_simp; first | done | with_reducible rfl | rfl | omega | assumption | (simp; omega))); (try simp only [Act.put, aP, aZ, aS]))
        iterate 2 (refine pl_take (v := .bool false) rfl ?_ ?_; (· (go_simp; first | done | with_reducible rfl | rfl | omega | assumption | (simp; omega))); (try simp only [Act.put, aP, aZ, aS]))
        iterate 2 (refine pl_skip (by kernel_rfl) ?_; (try simp only [Act.put, aP, aZ, aS]))
        refine pl_take (v := .bool false) rfl ?_ ?_
        · (go_simp; first | done | with_reducible rfl | rfl | omega | assumption | (simp; omega))
        (try simp only [Act.put, aP, aZ, aS])
        refine pl_done ?_
        refine hK13.out _ _ ?_
        (try clear hK13 K13)
        refine wp_cond_false rfl ?_
        refine wp_exit ?_
        refine (by assumption : ∀ a' w', Met _ a' w' → _) _ _ ?_
        go_meet
        case rel => exact ⟨k, M, X, cx, rfl, hk, hk2, Hon, (by assumption : Sat w0 _ _).pick (by (repeat (first | exact Pick.nil _ | exact Pick.tail _ | exact Out.here _ | apply Out.there | apply Pick.cons | apply Pick.drop)))⟩
  case rest =>
    obtain ⟨k, M, X, cx, rfl, hk, hk2, Hon, hsA⟩ := hcut
    clear hA1 hOp hok0 hel
    have hMok := Hon.out.ok hk2
    have hMl : M.l.length = k := by rw [Hon.out.l]; simp; omega
    have hMd : ∀ d ∈ M.l, d.length ≤ 1048576 := fun d hd => by
      rw [Hon.out.l] at hd
      obtain ⟨b, _, rfl⟩ := List.mem_map.1 hd
      unfold cutB; simp; omega
    obtain ⟨N, hN⟩ : ∃ N : Int, (k : Int) = N := ⟨_, rfl⟩
    have hn1 : 0 ≤ N ∧ N ≤ 60 := by omega
    have t1 := tmodR_bound fr (N + 1) (by omega)
    have t2 := tmodR_bound n 70 (by omega)
    have t3 := tmodR_bound m 70 (by omega)
    have t4 := tmodR_bound to_ (N + 1) (by omega)
    obtain ⟨r1, hr1⟩ : ∃ r, Int.tmod fr (N + 1) = r := ⟨_, rfl⟩
    obtain ⟨r2, hr2⟩ : ∃ r, Int.tmod n 70 = r := ⟨_, rfl⟩
    obtain ⟨r3, hr3⟩ : ∃ r, Int.tmod m 70 = r := ⟨_, rfl⟩
    obtain ⟨r4, hr4⟩ : ∃ r, Int.tmod to_ (N + 1) = r := ⟨_, rfl⟩
    rw [hr1] at t1
    rw [hr2] at t2
    rw [hr3] at t3
    rw [hr4] at t4
    have v1 := tmodR_pos (x := r1 + N + 1) (N := N + 1) (by omega) (by omega)
    have v2 := tmodR_pos (x := r2 + 70) (N := 70) (by omega) (by omega)
    have v3 := tmodR_pos (x := r3 + 70) (N := 70) (by omega) (by omega)
    have v4 := tmodR_pos (x := r4 + N + 1) (N := N + 1) (by omega) (by omega)
    obtain ⟨f1, hf1⟩ : ∃ r, Int.tmod (r1 + N + 1) (N + 1) = r := ⟨_, rfl⟩
    obtain ⟨f2, hf2⟩ : ∃ r, Int.tmod (r2 + 70) 70 = r := ⟨_, rfl⟩
    obtain ⟨f3, hf3⟩ : ∃ r, Int.tmod (r3 + 70) 70 = r := ⟨_, rfl⟩
    obtain ⟨f4, hf4⟩ : ∃ r, Int.tmod (r4 + N + 1) (N + 1) = r := ⟨_, rfl⟩
    rw [hf1] at v1
    rw [hf2] at v2
    rw [hf3] at v3
    rw [hf4] at v4
    have hq0 : ¬ (N + 1 = 0) := by omega
    have u0 : IntKind.i64.wrap (N + 1) = N + 1 := IntWalk.i64_in _ (by omega)
    have u1 : IntKind.i64.wrap (r1 + N) = r1 + N := IntWalk.i64_in _ (by omega)
    have u1' : IntKind.i64.wrap (r1 + N + 1) = r1 + N + 1 := IntWalk.i64_in _ (by omega)
    have u2 : IntKind.i64.wrap (r2 + 70) = r2 + 70 := IntWalk.i64_in _ (by omega)
    have u3 : IntKind.i64.wrap (r3 + 70) = r3 + 70 := IntWalk.i64_in _ (by omega)
    have u4 : IntKind.i64.wrap (r4 + N) = r4 + N := IntWalk.i64_in _ (by omega)
    have u4' : IntKind.i64.wrap (r4 + N + 1) = r4 + N + 1 := IntWalk.i64_in _ (by omega)
    have z1 : IntKind.i64.wrap r1 = r1 := IntWalk.i64_in _ (by omega)
    have z2 : IntKind.i64.wrap r2 = r2 := IntWalk.i64_in _ (by omega)
    have z3 : IntKind.i64.wrap r3 = r3 := IntWalk.i64_in _ (by omega)
    have z4 : IntKind.i64.wrap r4 = r4 := IntWalk.i64_in _ (by omega)
    have y1 : IntKind.i64.wrap f1 = f1 := IntWalk.i64_in _ (by omega)
    have y2 : IntKind.i64.wrap f2 = f2 := IntWalk.i64_in _ (by omega)
    have y3 : IntKind.i64.wrap f3 = f3 := IntWalk.i64_in _ (by omega)
    have y4 : IntKind.i64.wrap f4 = f4 := IntWalk.i64_in _ (by omega)
    obtain ⟨g1, rfl⟩ : ∃ g : Nat, f1 = g := ⟨f1.toNat, by omega⟩
    obtain ⟨g2, rfl⟩ : ∃ g : Nat, f2 = g := ⟨f2.toNat, by omega⟩
    obtain ⟨g3, rfl⟩ : ∃ g : Nat, f3 = g := ⟨f3.toNat, by omega⟩
    obtain ⟨g4, rfl⟩ : ∃ g : Nat, f4 = g := ⟨f4.toNat, by omega⟩
    obtain ⟨e1, e2, e3, e4⟩ := read_two (n := g2) (m := g3) Hon.out.st (f := g1) (by omega)
    have hRa := fun (w : World) (L' : List HP) (hs : Sat w0 w (MR p M :: L')) => readMR_spec (g1 : Int) (g2 : Int) hMok (by omega) hMd hs
    have hRb := fun (w : World) (L' : List HP) (hs : Sat w0 w (MR p M :: L')) => readMR_spec ((g1 : Int) + ((M.l.drop g1).take g2).length) (g3 : Int) hMok (by omega) hMd hs
    have hRc := fun (w : World) (L' : List HP) (hs : Sat w0 w (MR p M :: L')) => readMR_spec (g1 : Int) (((M.l.drop g1).take g2).length + (g3 : Int)) hMok (by omega) hMd hs
    rw [e1] at hRa
    rw [e3] at hRb
    rw [e4] at hRc
    have hlB : ((M.l.drop (g1 + ((M.l.drop g1).take g2).length)).take g3).length ≤ k := by rw [List.length_take, List.length_drop]; omega
    obtain ⟨lA, hlA⟩ : ∃ z, (M.l.drop g1).take g2 = z := ⟨_, rfl⟩
    rw [hlA] at e2 hRa hRb hRc hlB
    obtain ⟨lB, hlB'⟩ : ∃ z, (M.l.drop (g1 + lA.length)).take g3 = z := ⟨_, rfl⟩
    rw [hlB'] at hRb hRc hlB
    have x1 : IntKind.i64.wrap ((g1 : Int) + (lA.length : Int)) = (g1 : Int) + lA.length := IntWalk.i64_in _ (by omega)
    have x2 : IntKind.i64.wrap ((lA.length : Int) + (g3 : Int)) = (lA.length : Int) + g3 := IntWalk.i64_in _ (by omega)
    have hla60 : lA.length ≤ 60 := by omega
    have hlb60 : lB.length ≤ 60 := by omega
    clear e1 e2 e3 e4 hlA hlB' hlB
    refine hK10.out _ _ ?_
    clear hK10 K10
    refine wk_seq (fun K23 hK23 => ?_)
    refine wk_reg ?_
    iterate 14 (refine pl_take (v := ?_) rfl ?_ ?_; rotate_left; (· (go_simp; first | done | with_reducible rfl | rfl | omega | assumption | (simp; omega))); (try simp only [Act.put, aP, aZ, aS]))
    refine pl_done ?_
    refine hK23.out _ _ ?_
    (try clear hK23 K23)
    refine wk_seq (fun K24 hK24 => ?_)
    refine wk_reg ?_
    iterate 5 (refine pl_take (v := ?_) rfl ?_ ?_; rotate_left; (· (go_simp; first | done | with_reducible rfl | rfl | omega | assumption | (simp; omega))); (try simp only [Act.put, aP, aZ, aS]))
    refine pl_done ?_
    refine hK24.out _ _ ?_
    (try clear hK24 K24)
    refine wk_seq (fun K25 hK25 => ?_)
    refine wk_reg ?_
    iterate 5 (refine pl_take (v := ?_) rfl ?_ ?_; rotate_left; (· (go_simp; first | done | with_reducible rfl | rfl | omega | assumption | (simp; omega))); (try simp only [Act.put, aP, aZ, aS]))
    refine pl_done ?_
    refine hK25.out _ _ ?_
    (try clear hK25 K25)
    refine wk_seq (fun K26 hK26 => ?_)
    refine wk_reg ?_
    iterate 3 (refine pl_take (v := ?_) rfl ?_ ?_; rotate_left; (· (go_simp; first | done | with_reducible rfl | rfl | omega | assumption | (simp; omega))); (try simp only [Act.put, aP, aZ, aS]))
    refine pl_eff rfl (fun Kp hKp => ?_)
    go_simp
    (refine (hRa _ _ ((by assumption : Sat w0 _ _).pick (.cons (by (repeat (first | with_reducible exact Out.here _ | apply Out.there))) (.tail _)))).mono ?_; rintro e143 w143 ⟨XA, xa, na, zA, hzA, hnA, rfl, hs143⟩; simp only at hzA hs143 ⊢)
    (obtain rfl : na = lA.length := by rw [hnA.out, ← hzA.out]; simp)
    (try go_wp2_with fail)
    refine hKp.out _ _ ?_
    clear hKp Kp
    (try simp only [Act.put, aP, aZ, aS])
    iterate 5 (refine pl_take (v := ?_) rfl ?_ ?_; rotate_left; (· (go_simp; first | done | with_reducible rfl | rfl | omega | assumption | (simp; omega))); (try simp only [Act.put, aP, aZ, aS]))
    refine pl_done ?_
    refine hK26.out _ _ ?_
    (try clear hK26 K26)
    refine wk_seq (fun K27 hK27 => ?_)
    refine wk_reg ?_
    iterate 6 (refine pl_take (v := ?_) rfl ?_ ?_; rotate_left; (· (go_simp; first | done | with_reducible rfl | rfl | omega | assumption | (simp; omega))); (try simp only [Act.put, aP, aZ, aS]))
    refine pl_eff rfl (fun Kp hKp => ?_)
    go_simp
    (refine (hRb _ _ ((by assumption : Sat w0 _ _).pick (.cons (by (repeat (first | with_reducible exact Out.here _ | apply Out.there))) (.tail _)))).mono ?_; rintro e153 w153 ⟨XB, xb, nb, zB, hzB, hnB, rfl, hs153⟩; simp only at hzB hs153 ⊢)
    (obtain rfl : nb = lB.length := by rw [hnB.out, ← hzB.out]; simp)
    (try go_wp2_with fail)
    refine hKp.out _ _ ?_
    clear hKp Kp
    (try simp only [Act.put, aP, aZ, aS])
    iterate 5 (refine pl_take (v := ?_) rfl ?_ ?_; rotate_left; (· (go_simp; first | done | with_reducible rfl | rfl | omega | assumption | (simp; omega))); (try simp only [Act.put, aP, aZ, aS]))
    refine pl_done ?_
    refine hK27.out _ _ ?_
    (try clear hK27 K27)
    refine wk_seq (fun K28 hK28 => ?_)
    refine wk_reg ?_
    iterate 6 (refine pl_take (v := ?_) rfl ?_ ?_; rotate_left; (· (go_simp; first | done | with_reducible rfl | rfl | omega | assumption | (simp; omega))); (try simp only [Act.put, aP, aZ, aS]))
    refine pl_eff rfl (fun Kp hKp => ?_)
    go_simp
    (refine (hRc _ _ ((by assumption : Sat w0 _ _).pick (.cons (by (repeat (first | with_reducible exact Out.here _ | apply Out.there))) (.tail _)))).mono ?_; rintro e163 w163 ⟨XC, xc, nc, zC, hzC, hnC, rfl, hs163⟩; simp only at hzC hs163 ⊢)
    (try go_wp2_with fail)
    refine hKp.out _ _ ?_
    clear hKp Kp
    (try simp only [Act.put, aP, aZ, aS])
    iterate 5 (refine pl_take (v := ?_) rfl ?_ ?_; rotate_left; (· (go_simp; first | done | with_reducible rfl | rfl | omega | assumption | (simp; omega))); (try simp only [Act.put, aP, aZ, aS]))
    refine pl_done ?_
    refine hK28.out _ _ ?_
    (try clear hK28 K28)
    refine wk_seq (fun K29 hK29 => ?_)
    refine wk_seq (fun K30 hK30 => ?_)
    refine wk_reg ?_
    refine pl_take (v := ?_) rfl ?_ ?_
    rotate_left
    · (go_simp; first | done | with_reducible rfl | rfl | omega | assumption | (simp; omega))
    (try simp only [Act.put, aP, aZ, aS])
    refine pl_eff rfl (fun Kp hKp => ?_)
    go_simp
    ((refine (numL_spec _ (by assumption)).mono ?_); rintro e167 w167 ⟨rfl, hs167⟩)
    (try go_wp2_with fail)
    refine hKp.out _ _ ?_
    clear hKp Kp
    (try simp only [Act.put, aP, aZ, aS])
    refine pl_take (v := ?_) rfl ?_ ?_
    rotate_left
    · (go_simp; first | done | with_reducible rfl | rfl | omega | assumption | (simp; omega))
    (try simp only [Act.put, aP, aZ, aS])
    refine pl_eff rfl (fun Kp hKp => ?_)
    go_simp
    ((refine (numL_spec _ (by assumption)).mono ?_); rintro e169 w169 ⟨rfl, hs169⟩)
    (try go_wp2_with fail)
    refine hKp.out _ _ ?_
    clear hKp Kp
    (try simp only [Act.put, aP, aZ, aS])
    iterate 2 (refine pl_take (v := ?_) rfl ?_ ?_; rotate_left; (· (go_simp; first | done | with_reducible rfl | rfl | omega | assumption | (simp; omega))); (try simp only [Act.put, aP, aZ, aS]))
    refine pl_eff rfl (fun Kp hKp => ?_)
    go_simp
    ((refine (numL_spec _ (by assumption)).mono ?_); rintro e172 w172 ⟨rfl, hs172⟩)
    (try go_wp2_with fail)
    refine hKp.out _ _ ?_
    clear hKp Kp
    (try simp only [Act.put, aP, aZ, aS])
    refine pl_take (v := ?_) rfl ?_ ?_
    rotate_left
    · (go_simp; first | done | with_reducible rfl | rfl | omega | assumption | (simp; omega))
    (try simp only [Act.put, aP, aZ, aS])
    iterate 2 (refine pl_take (v := .bool false) rfl ?_ ?_; (· (go_simp; first | done | with_reducible rfl | rfl | omega | assumption | (simp; omega))); (try simp only [Act.put, aP, aZ, aS]))
    refine pl_eff (by kernel_rfl) (fun Kp hKp => ?_)
    ((with_reducible apply st_buildSlice); assumption; rfl; (go_simp; rfl); (simp [Value.cells]); omega; intro b176 w176 hs176)
    refine hKp.out _ _ ?_
    clear hKp Kp
    (try simp only [Act.put, aP, aZ, aS])
    refine pl_take (v := ?_) (by kernel_rfl) ?_ ?_
    rotate_left
    · (go_simp; first | done | with_reducible rfl | rfl | omega | assumption | (simp; omega))
    (try simp only [Act.put, aP, aZ, aS])
    refine pl_eff (by kernel_rfl) (fun Kp hKp => ?_)
    ((with_reducible apply st_append); assumption; rfl; rfl; (repeat (first | with_reducible exact Out.here _ | apply Out.there)); (repeat (first | with_reducible assumption | with_reducible exact Rd.own | with_reducible exact Rd.nil | with_reducible apply Rd.cons)); exact rec_one _; (simp only [maxLen]; omega); omega; intro A178 c178 w178 hs178 hc178; simp only [Nat.zero_add, List.nil_append] at hs178 hc178 ⊢)
    refine hKp.out _ _ ?_
    clear hKp Kp
    (try simp only [Act.put, aP, aZ, aS])
    refine pl_take (v := ?_) (by kernel_rfl) ?_ ?_
    rotate_left
    · (go_simp; first | done | with_reducible rfl | rfl | omega | assumption | (simp; omega))
    (try simp only [Act.put, aP, aZ, aS])
    refine pl_eff (by kernel_rfl) (fun Kp hKp => ?_)
    ((with_reducible apply st_append); assumption; rfl; rfl; (repeat (first | with_reducible exact Out.here _ | apply Out.there)); (repeat (first | with_reducible assumption | with_reducible exact Rd.own | with_reducible exact Rd.nil | with_reducible apply Rd.cons)); exact rec_one _; (simp only [maxLen]; omega); omega; intro A180 c180 w180 hs180 hc180)
    refine hKp.out _ _ ?_
    clear hKp Kp
    (try simp only [Act.put, aP, aZ, aS])
    refine pl_take (v := ?_) (by kernel_rfl) ?_ ?_
    rotate_left
    · (go_simp; first | done | with_reducible rfl | rfl | omega | assumption | (simp; omega))
    (try simp only [Act.put, aP, aZ, aS])
    refine pl_eff (by kernel_rfl) (fun Kp hKp => ?_)
    go_simp
    (refine (lists_same (lA ++ lB) (by simp; omega) (by assumption) (bb_app hzA.out hzB.out rfl (by (repeat (first | with_reducible assumption | with_reducible exact Rd.own | with_reducible exact Rd.nil | with_reducible apply Rd.cons))) (by (repeat (first | exact dvr_here | apply dvr_cons))) (by (repeat (first | exact dvr_here | apply dvr_cons)))) (bb_one hzC.out hnC.out (by (repeat (first | with_reducible assumption | with_reducible exact Rd.own | with_reducible exact Rd.nil | with_reducible apply Rd.cons))) (by (repeat (first | exact dvr_here | apply dvr_cons))))).mono ?_; rintro e182 w182 ⟨rfl, hs182⟩)
    (try go_wp2_with fail)
    refine hKp.out _ _ ?_
    clear hKp Kp
    (try simp only [Act.put, aP, aZ, aS])
    refine pl_take (v := .bool false) (by kernel_rfl) ?_ ?_
    · (go_simp; first | done | with_reducible rfl | rfl | omega | assumption | (simp; omega))
    (try simp only [Act.put, aP, aZ, aS])
    refine pl_take (v := .bool false) rfl ?_ ?_
    · (go_simp; first | done | with_reducible rfl | rfl | omega | assumption | (simp; omega))
    (try simp only [Act.put, aP, aZ, aS])
    refine pl_done ?_
    refine hK30.out _ _ ?_
    (try clear hK30 K30)
    refine wp_cond_false rfl ?_
    refine wp_skip ?_
    refine hK29.out _ _ ?_
    (try clear hK29 K29)
    refine wk_seq (fun K32 hK32 => ?_)
    -- at a cut
    obtain ⟨M', hap, hst', hl', hok'⟩ := reads_trim Hon.out hk2 hk (tn := g4) (by omega)
    have hct : (cTrim (g4 : Int)).length ≤ 16 := by
      have h1 := num_len 3 (by omega)
      have h2 := num_len (g4 : Int).toNat (by omega)
      simp only [cTrim, List.length_append]; omega
    have hTr := fun (w : World) (L' : List HP) (hs : Sat w0 w L') => trimM_spec (g4 : Int) hs
    rw [show trimC (g4 : Int) = (cTrim g4, 0) from by unfold trimC; rw [if_neg (by omega)]] at hTr
    have hAp := fun (w : World) (L' : List HP) (A : Option Addr) (c : Nat) (hs : Sat w0 w (MR p M :: L')) (h : Rd w0 L' A (cTrim (g4 : Int)).length 1 (B8 (cTrim (g4 : Int)))) => apply_spec (c := c) ((k : Int) + 5) (cTrim (g4 : Int)) hMok (by omega) (by omega) hs h
    rw [hap, hN] at hAp
    unfold RetTold at hAp
    simp only at hAp
    obtain ⟨co, hco⟩ : ∃ z, cTrim (g4 : Int) = z := ⟨_, rfl⟩
    rw [hco] at hTr hAp
    have hlz : M'.l.length = k - g4 := by rw [hl', List.length_drop, hMl]
    have hMd' : ∀ d ∈ M'.l, d.length ≤ 1048576 := fun d hd => hMd d (by rw [hl'] at hd; exact List.mem_of_mem_drop hd)
    have hRz := fun (w : World) (L' : List HP) (hs : Sat w0 w (MR p M' :: L')) => readMR_spec (g4 : Int) 99 hok' (by omega) hMd' hs
    rw [show M'.read (g4 : Int) 99 = (M'.l, 0) from by
      unfold Mc.read; rw [hst', if_neg (by omega), if_neg (by omega)]; congr 1
      rw [show ((g4 : Int) - (g4 : Int)).toNat = 0 from by omega, List.drop_zero]
      exact List.take_of_length_le (by rw [hlz]; omega)] at hRz
    have hSt := fun (w : World) (L' : List HP) (hs : Sat w0 w (MR p M' :: L')) => startMR_spec hs
    rw [hst'] at hSt
    have hNx := fun (w : World) (L' : List HP) (hs : Sat w0 w (MR p M' :: L')) => nextMR_spec hok' hs
    rw [hst', show (g4 : Int) + (M'.l.length : Int) = N from by rw [hlz]; omega] at hNx
    have w5 : IntKind.i64.wrap (N + 5) = N + 5 := IntWalk.i64_in _ (by omega)
    obtain ⟨nz, hnz⟩ : ∃ z : Nat, k - g4 = z := ⟨_, rfl⟩
    have wz : IntKind.i64.wrap (N - (g4 : Int)) = (nz : Int) := by rw [IntWalk.i64_in _ (by omega)]; omega
    have hel2 : ∀ (q : Nat) (d : List UInt8), M'.l[q]? = some d → (strs ls k)[g4 + q]? = some (strV d) := fun q d h => by
      rw [hl', List.getElem?_drop, Hon.out.l, List.getElem?_map] at h
      unfold strs
      rw [List.getElem?_map]
      cases hq : (ls.take k)[g4 + q]? with
      | none => rw [hq] at h; cases h
      | some b => rw [hq] at h; simp only [Option.map_some, Option.some.injEq] at h ⊢; rw [h]
    have Hel2 := Hid.mk' hel2
    rw [hnz] at hlz
    have Hlz := Hid.mk' hlz
    have hzk : g4 + nz = k := by omega
    clear hap hst' hl' hok' hct hco hel2 hlz hRa hRb hRc hMok hMl hMd hMd' hnz
    refine wk_reg ?_
    iterate 14 (refine pl_take (v := ?_) rfl ?_ ?_; rotate_left; (· (go_simp; first | done | with_reducible rfl | rfl | omega | assumption | (simp; omega))); (try simp only [Act.put, aP, aZ, aS]))
    refine pl_done ?_
    refine hK32.out _ _ ?_
    (try clear hK32 K32)
    refine wk_seq (fun K33 hK33 => ?_)
    refine wk_reg ?_
    refine pl_take (v := ?_) rfl ?_ ?_
    rotate_left
    · (go_simp; first | done | with_reducible rfl | rfl | omega | assumption | (simp; omega))
    (try simp only [Act.put, aP, aZ, aS])
    refine pl_eff rfl (fun Kp hKp => ?_)
    go_simp
    (refine (hTr _ _ (by assumption)).mono ?_; rintro e200 w200 ⟨B200, c200, rfl, hs200⟩; simp only at hs200 ⊢)
    (try go_wp2_with fail)
    refine hKp.out _ _ ?_
    clear hKp Kp
    (try simp only [Act.put, aP, aZ, aS])
    iterate 5 (refine pl_take (v := ?_) rfl ?_ ?_; rotate_left; (· (go_simp; first | done | with_reducible rfl | rfl | omega | assumption | (simp; omega))); (try simp only [Act.put, aP, aZ, aS]))
    refine pl_done ?_
    refine hK33.out _ _ ?_
    (try clear hK33 K33)
    refine wk_seq (fun K34 hK34 => ?_)
    refine wk_reg ?_
    iterate 5 (refine pl_take (v := ?_) rfl ?_ ?_; rotate_left; (· (go_simp; first | done | with_reducible rfl | rfl | omega | assumption | (simp; omega))); (try simp only [Act.put, aP, aZ, aS]))
    refine pl_eff rfl (fun Kp hKp => ?_)
    go_simp
    (refine (hAp _ _ _ _ ((by assumption : Sat w0 _ _).pick (.cons (by (repeat (first | with_reducible exact Out.here _ | apply Out.there))) (.tail _))) (by (repeat (first | with_reducible assumption | with_reducible exact Rd.own | with_reducible exact Rd.nil | with_reducible apply Rd.cons)))).mono ?_; rintro e209 w209 ⟨rfl, hs209⟩)
    (try go_wp2_with fail)
    refine hKp.out _ _ ?_
    clear hKp Kp
    (try simp only [Act.put, aP, aZ, aS])
    iterate 3 (refine pl_take (v := ?_) rfl ?_ ?_; rotate_left; (· (go_simp; first | done | with_reducible rfl | rfl | omega | assumption | (simp; omega))); (try simp only [Act.put, aP, aZ, aS]))
    refine pl_eff rfl (fun Kp hKp => ?_)
    ((with_reducible apply st_alloc); assumption; intro b30 w30 hs30; simp only [Value.cells] at hs30)
    refine hKp.out _ _ ?_
    clear hKp Kp
    (try simp only [Act.put, aP, aZ, aS])
    refine pl_eff rfl (fun Kp hKp => ?_)
    (first | ((with_reducible apply st_storeAll); assumption; rfl; (go_simp; rfl); (repeat (first | with_reducible exact Out.here _ | apply Out.there)); rfl; (focus (first | (simp [Value.oneCell']; done) | (simp [Value.cells, Value.oneCell']; done))); rfl; intro wr29_10 hsr29_10; simp only [Value.cells] at hsr29_10) | ((with_reducible apply st_store); assumption; rfl; (go_simp; rfl); (repeat (first | with_reducible exact Out.here _ | apply Out.there)); rfl; (first | (focus (simp [Value.oneCell']; done)) | (simp [Value.cells, Value.oneCell'])); (first | (focus (simp; done)) | (simp [Value.cells])); intro wr29_10 hsr29_10; simp only [upd, Value.cells] at hsr29_10))
    refine hKp.out _ _ ?_
    clear hKp Kp
    (try dsimp only [Act.put])
    refine pl_take (v := ?_) rfl ?_ ?_
    rotate_left
    · (go_simp; first | done | with_reducible rfl | rfl | omega | assumption | (simp; omega))
    (try simp only [Act.put, aP, aZ, aS])
    refine pl_done ?_
    refine hK34.out _ _ ?_
    (try clear hK34 K34)
    refine wk_seq (fun K35 hK35 => ?_)
    refine wk_reg ?_
    iterate 2 (refine pl_take (v := ?_) rfl ?_ ?_; rotate_left; (· (go_simp; first | done | with_reducible rfl | rfl | omega | assumption | (simp; omega))); (try simp only [Act.put, aP, aZ, aS]))
    refine pl_eff rfl (fun Kp hKp => ?_)
    go_simp
    (refine (hRz _ _ ((by assumption : Sat w0 _ _).pick (.cons (by (repeat (first | with_reducible exact Out.here _ | apply Out.there))) (.tail _)))).mono ?_; rintro e215 w215 ⟨XZ, xz, n9, zZ, hzZ, hnZ, rfl, hs215⟩; simp only at hzZ hs215 ⊢)
    (obtain rfl : n9 = nz := by rw [hnZ.out, ← Hlz.out, ← hzZ.out]; simp)
    (try go_wp2_with fail)
    refine hKp.out _ _ ?_
    clear hKp Kp
    (try simp only [Act.put, aP, aZ, aS])
    iterate 5 (refine pl_take (v := ?_) rfl ?_ ?_; rotate_left; (· (go_simp; first | done | with_reducible rfl | rfl | omega | assumption | (simp; omega))); (try simp only [Act.put, aP, aZ, aS]))
    refine pl_done ?_
    refine hK35.out _ _ ?_
    (try clear hK35 K35)
    refine wk_seq (fun K36 hK36 => ?_)
    refine wk_seq (fun K37 hK37 => ?_)
    refine rg_start rfl (by assumption) (fun wr31 hsr31 => ?_)
    refine rg_take (i := 0) (v := ?_) rfl (by kernel_rfl) (by kernel_rfl) (by kernel_rfl) (fun _ _ _ h => h) rfl (by assumption) ?_ ?_
    rotate_left
    · intro w hSw; (go_simp; first | done | with_reducible rfl | rfl | omega | assumption | (simp; omega))
    (try simp only [Act.put, aP, aZ, aS])
    refine rg_take (i := 2) (v := ?_) rfl (by kernel_rfl) (by kernel_rfl) (by kernel_rfl) (fun _ _ _ h => h) rfl (by assumption) ?_ ?_
    rotate_left
    · intro w hSw; (go_simp; first | done | with_reducible rfl | rfl | omega | assumption | (simp; omega))
    (try simp only [Act.put, aP, aZ, aS])
    refine rg_take (i := 3) (v := ?_) rfl (by kernel_rfl) (by kernel_rfl) (by kernel_rfl) (fun _ _ _ h => h) rfl (by assumption) ?_ ?_
    rotate_left
    · intro w hSw; ((with_reducible apply yl_load); assumption; rfl; (repeat (first | with_reducible assumption | ((with_reducible apply Cl.own); exact rfl) | ((with_reducible apply Cl.blkL); exact rfl) | with_reducible apply Cl.cons)); rfl)
    (try simp only [Act.put, aP, aZ, aS])
    refine rg_take (i := 6) (v := ?_) rfl (by kernel_rfl) (by kernel_rfl) (by kernel_rfl) (fun _ _ _ h => h) rfl (by assumption) ?_ ?_
    rotate_left
    · intro w hSw; (go_simp; first | done | with_reducible rfl | rfl | omega | assumption | (simp; omega))
    (try simp only [Act.put, aP, aZ, aS])
    refine rg_one (i := 1) (by kernel_rfl) rfl rfl (fun Kp hKp => ?_)
    go_simp
    ((refine (numL_spec _ (by assumption)).mono ?_); rintro e219 w219 ⟨rfl, hs219⟩)
    (try go_wp2_with fail)
    refine rg_back (hK := hKp) ?_ (fun hsk219 => ?_)
    · (first | assumption | (apply Sat.drew; assumption) | (apply Sat.pick; assumption; (repeat (first | exact Pick.nil _ | with_reducible exact Pick.tail _ | with_reducible exact Out.here _ | apply Out.there | apply Pick.cons | apply Pick.drop))))
    clear hKp Kp
    have hsz219 := hs219
    (try simp only [Act.put, aP, aZ, aS])
    refine rg_one (i := 4) (by kernel_rfl) rfl rfl (fun Kp hKp => ?_)
    go_simp
    ((refine (numL_spec _ (by assumption)).mono ?_); rintro e222 w222 ⟨rfl, hs222⟩)
    (try go_wp2_with fail)
    refine rg_back (hK := hKp) ?_ (fun hsk222 => ?_)
    · (first | assumption | (apply Sat.drew; assumption) | (apply Sat.pick; assumption; (repeat (first | exact Pick.nil _ | with_reducible exact Pick.tail _ | with_reducible exact Out.here _ | apply Out.there | apply Pick.cons | apply Pick.drop))))
    clear hKp Kp
    have hsz222 := hs222
    (try simp only [Act.put, aP, aZ, aS])
    refine rg_take (i := 5) (v := ?_) rfl (by kernel_rfl) (by kernel_rfl) (by kernel_rfl) (fun _ _ _ h => h) rfl (by assumption) ?_ ?_
    rotate_left
    · intro w hSw; (go_simp; first | done | with_reducible rfl | rfl | omega | assumption | (simp; omega))
    (try simp only [Act.put, aP, aZ, aS])
    refine rg_one (i := 7) (by kernel_rfl) rfl rfl (fun Kp hKp => ?_)
    go_simp
    ((refine (numL_spec _ (by assumption)).mono ?_); rintro e225 w225 ⟨rfl, hs225⟩)
    (try go_wp2_with fail)
    refine rg_back (hK := hKp) ?_ (fun hsk225 => ?_)
    · (first | assumption | (apply Sat.drew; assumption) | (apply Sat.pick; assumption; (repeat (first | exact Pick.nil _ | with_reducible exact Pick.tail _ | with_reducible exact Out.here _ | apply Out.there | apply Pick.cons | apply Pick.drop))))
    clear hKp Kp
    have hsz225 := hs225
    (try simp only [Act.put, aP, aZ, aS])
    refine rg_take (i := 8) (v := ?_) rfl (by kernel_rfl) (by kernel_rfl) (by kernel_rfl) (fun _ _ _ h => h) rfl (by assumption) ?_ ?_
    rotate_left
    · intro w hSw; (go_simp; first | done | with_reducible rfl | rfl | omega | assumption | (simp; omega))
    (try simp only [Act.put, aP, aZ, aS])
    refine rg_take (i := 9) (v := .bool false) rfl (by kernel_rfl) (by kernel_rfl) (by kernel_rfl) (fun _ _ _ h => h) rfl (by assumption) ?_ ?_
    · intro w hSw; (go_simp; first | done | with_reducible rfl | rfl | omega | assumption | (simp; omega))
    (try simp only [Act.put, aP, aZ, aS])
    refine rg_take (i := 10) (v := .bool false) rfl (by kernel_rfl) (by kernel_rfl) (by kernel_rfl) (fun _ _ _ h => h) rfl (by assumption) ?_ ?_
    · intro w hSw; (go_simp; first | done | with_reducible rfl | rfl | omega | assumption | (simp; omega))
    (try simp only [Act.put, aP, aZ, aS])
    refine rg_take (i := 11) (v := ?_) rfl (by kernel_rfl) (by kernel_rfl) (by kernel_rfl) (fun _ _ _ h => h) (by kernel_rfl) (by assumption) ?_ ?_
    rotate_left
    · intro w hSw; (go_simp; first | done | with_reducible rfl | rfl | omega | assumption | (simp; omega))
    (try simp only [Act.put, aP, aZ, aS])
    refine rg_take (i := 12) (v := ?_) rfl (by kernel_rfl) (by kernel_rfl) (by kernel_rfl) (fun _ _ _ h => h) (by kernel_rfl) (by assumption) ?_ ?_
    rotate_left
    · intro w hSw; ((with_reducible apply yl_load); assumption; rfl; (repeat (first | with_reducible assumption | ((with_reducible apply Cl.own); exact rfl) | ((with_reducible apply Cl.blkL); exact rfl) | with_reducible apply Cl.cons)); rfl)
    (try simp only [Act.put, aP, aZ, aS])
    refine rg_take (i := 13) (v := ?_) rfl (by kernel_rfl) (by kernel_rfl) (by kernel_rfl) (fun _ _ _ h => h) (by kernel_rfl) (by assumption) ?_ ?_
    rotate_left
    · intro w hSw; (go_simp; first | done | with_reducible rfl | rfl | omega | assumption | (simp; omega))
    (try simp only [Act.put, aP, aZ, aS])
    refine rg_take (i := 14) (v := .bool false) rfl (by kernel_rfl) (by kernel_rfl) (by kernel_rfl) (fun _ _ _ h => h) (by kernel_rfl) (by assumption) ?_ ?_
    · intro w hSw; (go_simp; first | done | with_reducible rfl | rfl | omega | assumption | (simp; omega))
    (try simp only [Act.put, aP, aZ, aS])
    refine rg_take (i := 15) (v := .bool false) rfl (by kernel_rfl) (by kernel_rfl) (by kernel_rfl) (fun _ _ _ h => h) rfl (by assumption) ?_ ?_
    · intro w hSw; (go_simp; first | done | with_reducible rfl | rfl | omega | assumption | (simp; omega))
    (try simp only [Act.put, aP, aZ, aS])
    refine rg_take (i := 16) (v := .bool false) rfl (by kernel_rfl) (by kernel_rfl) (by kernel_rfl) (fun _ _ _ h => h) rfl (by assumption) ?_ ?_
    · intro w hSw; (go_simp; first | done | with_reducible rfl | rfl | omega | assumption | (simp; omega))
    (try simp only [Act.put, aP, aZ, aS])
    refine rg_take (i := 17) (v := ?_) rfl (by kernel_rfl) (by kernel_rfl) (by kernel_rfl) (fun _ _ _ h => h) (by kernel_rfl) (by assumption) ?_ ?_
    rotate_left
    · intro w hSw; (go_simp; first | done | with_reducible rfl | rfl | omega | assumption | (simp; omega))
    (try simp only [Act.put, aP, aZ, aS])
    refine rg_take (i := 19) (v := ?_) rfl (by kernel_rfl) (by kernel_rfl) (by kernel_rfl) (fun _ _ _ h => h) (by kernel_rfl) (by assumption) ?_ ?_
    rotate_left
    · intro w hSw; (go_simp; first | done | with_reducible rfl | rfl | omega | assumption | (simp; omega))
    (try simp only [Act.put, aP, aZ, aS])
    refine rg_one (i := 18) (by kernel_rfl) rfl (by kernel_rfl) (fun Kp hKp => ?_)
    go_simp
    (refine (hSt _ _ ((by assumption : Sat w0 _ _).pick (.cons (by (repeat (first | with_reducible exact Out.here _ | apply Out.there))) (.tail _)))).mono ?_; rintro e236 w236 ⟨rfl, hs236⟩)
    (try go_wp2_with fail)
    refine rg_back (hK := hKp) ?_ (fun hsk236 => ?_)
    · (first | assumption | (apply Sat.drew; assumption) | (apply Sat.pick; assumption; (repeat (first | exact Pick.nil _ | with_reducible exact Pick.tail _ | with_reducible exact Out.here _ | apply Out.there | apply Pick.cons | apply Pick.drop))))
    clear hKp Kp
    have hsz236 := hs236
    (try simp only [Act.put, aP, aZ, aS])
    refine rg_take (i := 20) (v := .bool false) rfl (by kernel_rfl) (by kernel_rfl) (by kernel_rfl) (fun _ _ _ h => h) (by kernel_rfl) (by assumption) ?_ ?_
    · intro w hSw; (go_simp; first | done | with_reducible rfl | rfl | omega | assumption | (simp; omega))
    (try simp only [Act.put, aP, aZ, aS])
    refine rg_take (i := 21) (v := .bool false) rfl (by kernel_rfl) (by kernel_rfl) (by kernel_rfl) (fun _ _ _ h => h) rfl (by assumption) ?_ ?_
    · intro w hSw; (go_simp; first | done | with_reducible rfl | rfl | omega | assumption | (simp; omega))
    (try simp only [Act.put, aP, aZ, aS])
    refine rg_take (i := 22) (v := .bool false) rfl (by kernel_rfl) (by kernel_rfl) (by kernel_rfl) (fun _ _ _ h => h) rfl (by assumption) ?_ ?_
    · intro w hSw; (go_simp; first | done | with_reducible rfl | rfl | omega | assumption | (simp; omega))
    (try simp only [Act.put, aP, aZ, aS])
    refine rg_take (i := 23) (v := ?_) rfl (by kernel_rfl) (by kernel_rfl) (by kernel_rfl) (fun _ _ _ h => h) (by kernel_rfl) (by assumption) ?_ ?_
    rotate_left
    · intro w hSw; (go_simp; first | done | with_reducible rfl | rfl | omega | assumption | (simp; omega))
    (try simp only [Act.put, aP, aZ, aS])
    refine rg_take (i := 25) (v := ?_) rfl (by kernel_rfl) (by kernel_rfl) (by kernel_rfl) (fun _ _ _ h => h) (by kernel_rfl) (by assumption) ?_ ?_
    rotate_left
    · intro w hSw; (go_simp; first | done | with_reducible rfl | rfl | omega | assumption | (simp; omega))
    (try simp only [Act.put, aP, aZ, aS])
    refine rg_take (i := 26) (v := ?_) rfl (by kernel_rfl) (by kernel_rfl) (by kernel_rfl) (fun _ _ _ h => h) (by kernel_rfl) (by assumption) ?_ ?_
    rotate_left
    · intro w hSw; (go_simp; first | done | with_reducible rfl | rfl | omega | assumption | (simp; omega))
    (try simp only [Act.put, aP, aZ, aS])
    refine rg_one (i := 24) (by kernel_rfl) rfl (by kernel_rfl) (fun Kp hKp => ?_)
    go_simp
    (refine (hNx _ _ ((by assumption : Sat w0 _ _).pick (.cons (by (repeat (first | with_reducible exact Out.here _ | apply Out.there))) (.tail _)))).mono ?_; rintro e242 w242 ⟨rfl, hs242⟩)
    (try go_wp2_with fail)
    refine rg_back (hK := hKp) ?_ (fun hsk242 => ?_)
    · (first | assumption | (apply Sat.drew; assumption) | (apply Sat.pick; assumption; (repeat (first | exact Pick.nil _ | with_reducible exact Pick.tail _ | with_reducible exact Out.here _ | apply Out.there | apply Pick.cons | apply Pick.drop))))
    clear hKp Kp
    have hsz242 := hs242
    (try simp only [Act.put, aP, aZ, aS])
    refine rg_take (i := 27) (v := .bool false) rfl (by kernel_rfl) (by kernel_rfl) (by kernel_rfl) (fun _ _ _ h => h) (by kernel_rfl) (by assumption) ?_ ?_
    · intro w hSw; (go_simp; first | done | with_reducible rfl | rfl | omega | assumption | (simp; omega))
    (try simp only [Act.put, aP, aZ, aS])
    refine rg_take (i := 28) (v := .bool false) rfl (by kernel_rfl) (by kernel_rfl) (by kernel_rfl) (fun _ _ _ h => h) rfl (by assumption) ?_ ?_
    · intro w hSw; (go_simp; first | done | with_reducible rfl | rfl | omega | assumption | (simp; omega))
    (try simp only [Act.put, aP, aZ, aS])
    refine rg_take (i := 29) (v := .bool false) rfl (by kernel_rfl) (by kernel_rfl) (by kernel_rfl) (fun _ _ _ h => h) rfl (by assumption) ?_ ?_
    · intro w hSw; (go_simp; first | done | with_reducible rfl | rfl | omega | assumption | (simp; omega))
    (try simp only [Act.put, aP, aZ, aS])
    refine rg_take (i := 30) (v := ?_) rfl (by kernel_rfl) (by kernel_rfl) (by kernel_rfl) (fun _ _ _ h => h) (by kernel_rfl) (by assumption) ?_ ?_
    rotate_left
    · intro w hSw; (go_simp; first | done | with_reducible rfl | rfl | omega | assumption | (simp; omega))
    (try simp only [Act.put, aP, aZ, aS])
    refine rg_take (i := 31) (v := ?_) rfl (by kernel_rfl) (by kernel_rfl) (by kernel_rfl) (fun _ _ _ h => h) (by kernel_rfl) (by assumption) ?_ ?_
    rotate_left
    · intro w hSw; (go_simp; first | done | with_reducible rfl | rfl | omega | assumption | (simp; omega))
    (try simp only [Act.put, aP, aZ, aS])
    refine rg_take (i := 32) (v := ?_) rfl (by kernel_rfl) (by kernel_rfl) (by kernel_rfl) (fun _ _ _ h => h) (by kernel_rfl) (by assumption) ?_ ?_
    rotate_left
    · intro w hSw; (go_simp; first | done | with_reducible rfl | rfl | omega | assumption | (simp; omega))
    (try simp only [Act.put, aP, aZ, aS])
    refine rg_take (i := 33) (v := ?_) rfl (by kernel_rfl) (by kernel_rfl) (by kernel_rfl) (fun _ _ _ h => h) (by kernel_rfl) (by assumption) ?_ ?_
    rotate_left
    · intro w hSw; (go_simp; first | done | with_reducible rfl | rfl | omega | assumption | (simp; omega))
    (try simp only [Act.put, aP, aZ, aS])
    refine rg_take (i := 34) (v := ?_) rfl (by kernel_rfl) (by kernel_rfl) (by kernel_rfl) (fun _ _ _ h => h) (by kernel_rfl) (by assumption) ?_ ?_
    rotate_left
    · intro w hSw; (go_simp; first | done | with_reducible rfl | rfl | omega | assumption | (simp; omega))
    (try simp only [Act.put, aP, aZ, aS])
    refine rg_take (i := 35) (v := ?_) rfl (by kernel_rfl) (by kernel_rfl) (by kernel_rfl) (fun _ _ _ h => h) (by kernel_rfl) (by assumption) ?_ ?_
    rotate_left
    · intro w hSw; (go_simp; first | done | with_reducible rfl | rfl | omega | assumption | (simp; omega))
    (try simp only [Act.put, aP, aZ, aS])
    refine rg_take (i := 36) (v := .bool false) rfl (by kernel_rfl) (by kernel_rfl) (by kernel_rfl) (fun _ _ _ h => h) (by kernel_rfl) (by assumption) ?_ ?_
    · intro w hSw; (go_simp; first | done | with_reducible rfl | rfl | omega | assumption | (simp; omega))
    (try simp only [Act.put, aP, aZ, aS])
    refine rg_take (i := 37) (v := .bool false) rfl (by kernel_rfl) (by kernel_rfl) (by kernel_rfl) (fun _ _ _ h => h) rfl (by assumption) ?_ ?_
    · intro w hSw; (go_simp; first | done | with_reducible rfl | rfl | omega | assumption | (simp; omega))
    (try simp only [Act.put, aP, aZ, aS])
    refine rg_done (by kernel_rfl) ?_
    refine hK37.out _ _ ?_
    (try clear hK37 K37)
    refine wp_cond_false rfl ?_
    refine wp_skip ?_
    refine hK36.out _ _ ?_
    (try clear hK36 K36)
    refine wk_seq (fun K39 hK39 => ?_)
    refine wk_seq (fun K40 hK40 => ?_)
    refine wk_reg ?_
    refine pl_take (v := ?_) rfl ?_ ?_
    rotate_left
    · (go_simp; first | done | with_reducible rfl | rfl | omega | assumption | (simp; omega))
    (try simp only [Act.put, aP, aZ, aS])
    refine pl_done ?_
    refine hK40.out _ _ ?_
    (try clear hK40 K40)
    refine wp_block ?_
    -- at a loop
    go_loopg [34] n9 (fun g s34 wr => ∃ (q : Nat), s34 = .int .i64 q ∧ n9 - q ≤ g ∧ q ≤ n9 ∧ Sat w0 wr (own 33 1 XZ xz n9 (recCells zZ) :: DV (recData zZ) :: own 9 1 X cx k (strs ls k) :: L))
    case atStart => exact ⟨0, rfl, by omega, Nat.zero_le _, (by assumption : Sat w0 w242 _).pick (by (repeat (first | exact Pick.nil _ | exact Pick.tail _ | exact Out.here _ | apply Out.there | apply Pick.cons | apply Pick.drop)))⟩
    case round =>
      obtain ⟨q, rfl, hgq, hq, hsC⟩ := hrel
      by_cases hlt : q < n9
      · obtain ⟨⟨d, D, dc⟩, hx⟩ : ∃ z, zZ[q]? = some z := ⟨zZ[q]'(by have := hnZ.out; omega), List.getElem?_eq_getElem _⟩
        have hdq : M'.l[q]? = some d := by rw [← hzZ.out, List.getElem?_map, hx]; rfl
        have hstr := Hel2.out q d hdq
        obtain ⟨gq, hgq2⟩ : ∃ z, g4 + q = z := ⟨_, rfl⟩
        rw [hgq2] at hstr
        obtain ⟨gz, rfl⟩ := (hsC.pick (T := own 33 1 XZ xz n9 (recCells zZ) :: L) (by (repeat (first | exact Pick.nil _ | exact Pick.tail _ | exact Out.here _ | apply Out.there | apply Pick.cons | apply Pick.drop)))).own_some (by omega)
        obtain ⟨gs, rfl⟩ := (hsC.pick (T := own 9 1 X cx k (strs ls k) :: L) (by (repeat (first | exact Pick.nil _ | exact Pick.tail _ | exact Out.here _ | apply Out.there | apply Pick.cons | apply Pick.drop)))).own_some (by omega)
        have hca : Cl w0 (own 33 1 (some ⟨gz, 0, none⟩) xz n9 (recCells zZ) :: DV (recData zZ) :: own 9 1 (some ⟨gs, 0, none⟩) cx k (strs ls k) :: L) ⟨gz, q, none⟩ (.slice D d.length dc) := by
          have := (Rd.own (w0 := w0) (L := DV (recData zZ) :: own 9 1 (some ⟨gs, 0, none⟩) cx k (strs ls k) :: L) (E := 33) (sz := 1) (A := some ⟨gz, 0, none⟩) (c := xz) (n := n9) (xs := recCells zZ)).elt (k := q) (u := .slice D d.length dc) (by unfold recCells; rw [List.getElem?_map, hx]; rfl)
          simpa using this
        have hcb : Cl w0 (own 9 1 (some ⟨gs, 0, none⟩) cx k (strs ls k) :: L) ⟨gs, gq, none⟩ (strV d) := by
          have := (Rd.own (w0 := w0) (L := L) (E := 9) (sz := 1) (A := some ⟨gs, 0, none⟩) (c := cx) (n := k) (xs := strs ls k)).elt hstr
          simpa using this
        have hdv : Rd w0 (DV (recData zZ) :: own 9 1 (some ⟨gs, 0, none⟩) cx k (strs ls k) :: L) D d.length 1 (B8 d) := DV.rd (List.mem_map.2 ⟨(d, D, dc), List.mem_of_getElem? hx, rfl⟩)
        have i0 : (0 : Int) ≤ (q : Int) := by omega
        have i1 : (q : Int) < (n9 : Int) := by omega
        have hwq : IntKind.i64.wrap ((q : Int) + 1) = (q : Int) + 1 := IntWalk.i64_in _ (by omega)
        have hwz : IntKind.i64.wrap ((g4 : Int) + (q : Int)) = (gq : Int) := by rw [IntWalk.i64_in _ (by omega)]; omega
        have j0 : (0 : Int) ≤ (gq : Int) := by omega
        have j1 : (gq : Int) < N := by omega
        clear hx hdq hstr hgq2
        refine wk_seq (fun K41 hK41 => ?_)
        refine wk_seq (fun K42 hK42 => ?_)
        refine wk_reg ?_
        iterate 3 (refine pl_take (v := ?_) rfl ?_ ?_; rotate_left; (· (go_simp; first | done | with_reducible rfl | rfl | omega | assumption | (simp; omega))); (try simp only [Act.put, aP, aZ, aS]))
        refine pl_take (v := .bool true) rfl ?_ ?_
        · (go_simp; first | done | with_reducible rfl | rfl | omega | assumption | (simp; omega))
        (try simp only [Act.put, aP, aZ, aS])
        refine pl_done ?_
        refine hK42.out _ _ ?_
        (try clear hK42 K42)
        refine wp_cond_true rfl ?_
        refine wp_skip ?_
        refine hK41.out _ _ ?_
        (try clear hK41 K41)
        refine wk_seq (fun K43 hK43 => ?_)
        refine wp_block ?_
        refine wk_seq (fun K44 hK44 => ?_)
        refine rg_start rfl (by assumption) (fun wr36 hsr36 => ?_)
        refine rg_take (i := 0) (v := ?_) rfl (by kernel_rfl) (by kernel_rfl) (by kernel_rfl) (fun _ _ _ h => h) rfl (by assumption) ?_ ?_
        rotate_left
        · intro w hSw; (go_simp; first | done | with_reducible rfl | rfl | omega | assumption | (simp; omega))
        (try simp only [Act.put, aP, aZ, aS])
        refine rg_take (i := 1) (v := ?_) rfl (by kernel_rfl) (by kernel_rfl) (by kernel_rfl) (fun _ _ _ h => h) rfl (by assumption) ?_ ?_
        rotate_left
        · intro w hSw; (go_simp; first | done | with_reducible rfl | rfl | omega | assumption | (simp; omega))
        (try simp only [Act.put, aP, aZ, aS])
        refine rg_take (i := 2) (v := ?_) rfl (by kernel_rfl) (by kernel_rfl) (by kernel_rfl) (fun _ _ _ h => h) rfl (by assumption) ?_ ?_
        rotate_left
        · intro w hSw; (go_simp; first | done | with_reducible rfl | rfl | omega | assumption | (simp; omega))
        (try simp only [Act.put, aP, aZ, aS])
        refine rg_take (i := 3) (v := ?_) rfl (by kernel_rfl) (by kernel_rfl) (by kernel_rfl) (fun _ _ _ h => h) rfl (by assumption) ?_ ?_
        rotate_left
        · intro w hSw; ((with_reducible apply yl_load); assumption; rfl; (repeat (first | with_reducible assumption | ((with_reducible apply Cl.own); exact rfl) | ((with_reducible apply Cl.blkL); exact rfl) | with_reducible apply Cl.cons)); rfl)
        (try simp only [Act.put, aP, aZ, aS])
        refine rg_take (i := 4) (v := ?_) rfl (by kernel_rfl) (by kernel_rfl) (by kernel_rfl) (fun _ _ _ h => h) rfl (by assumption) ?_ ?_
        rotate_left
        · intro w hSw; (first | ((with_reducible apply yl_b2s); assumption; rfl; (repeat (first | with_reducible assumption | with_reducible exact Rd.own | with_reducible exact Rd.nil | with_reducible apply Rd.cons)); rfl) | (go_simp; first | done | with_reducible rfl | rfl | omega | assumption | (simp; omega)))
        (try simp only [Act.put, aP, aZ, aS])
        refine rg_take (i := 5) (v := ?_) rfl (by kernel_rfl) (by kernel_rfl) (by kernel_rfl) (fun _ _ _ h => h) rfl (by assumption) ?_ ?_
        rotate_left
        · intro w hSw; (go_simp; first | done | with_reducible rfl | rfl | omega | assumption | (simp; omega))
        (try simp only [Act.put, aP, aZ, aS])
        refine rg_take (i := 6) (v := ?_) rfl (by kernel_rfl) (by kernel_rfl) (by kernel_rfl) (fun _ _ _ h => h) rfl (by assumption) ?_ ?_
        rotate_left
        · intro w hSw; (go_simp; first | done | with_reducible rfl | rfl | omega | assumption | (simp; omega))
        (try simp only [Act.put, aP, aZ, aS])
        refine rg_take (i := 7) (v := ?_) rfl (by kernel_rfl) (by kernel_rfl) (by kernel_rfl) (fun _ _ _ h => h) rfl (by assumption) ?_ ?_
        rotate_left
        · intro w hSw; (go_simp; first | done | with_reducible rfl | rfl | omega | assumption | (simp; omega))
        (try simp only [Act.put, aP, aZ, aS])
        refine rg_take (i := 8) (v := ?_) rfl (by kernel_rfl) (by kernel_rfl) (by kernel_rfl) (fun _ _ _ h => h) rfl (by assumption) ?_ ?_
        rotate_left
        · intro w hSw; (go_simp; first | done | with_reducible rfl | rfl | omega | assumption | (simp; omega))
        (try simp only [Act.put, aP, aZ, aS])
        refine rg_take (i := 9) (v := ?_) rfl (by kernel_rfl) (by kernel_rfl) (by kernel_rfl) (fun _ _ _ h => h) rfl (by assumption) ?_ ?_
        rotate_left
        · intro w hSw; (go_simp; first | done | with_reducible rfl | rfl | omega | assumption | (simp; omega))
        (try simp only [Act.put, aP, aZ, aS])
        refine rg_take (i := 10) (v := ?_) rfl (by kernel_rfl) (by kernel_rfl) (by kernel_rfl) (fun _ _ _ h => h) rfl (by assumption) ?_ ?_
        rotate_left
        · intro w hSw; ((with_reducible apply yl_load); assumption; rfl; (repeat (first | with_reducible assumption | ((with_reducible apply Cl.own); exact rfl) | ((with_reducible apply Cl.blkL); exact rfl) | with_reducible apply Cl.cons)); rfl)
        (try simp only [Act.put, aP, aZ, aS])
        refine rg_take (i := 11) (v := .bool false) rfl (by kernel_rfl) (by kernel_rfl) (by kernel_rfl) (fun _ _ _ h => h) rfl (by assumption) ?_ ?_
        · intro w hSw; (go_simp; first | done | with_reducible rfl | rfl | omega | assumption | (simp; omega))
        (try simp only [Act.put, aP, aZ, aS])
        refine rg_done (by kernel_rfl) ?_
        refine hK44.out _ _ ?_
        (try clear hK44 K44)
        refine wp_cond_false rfl ?_
        refine wp_skip ?_
        refine hK43.out _ _ ?_
        (try clear hK43 K43)
        refine wk_reg ?_
        iterate 3 (refine pl_take (v := ?_) rfl ?_ ?_; rotate_left; (· (go_simp; first | done | with_reducible rfl | rfl | omega | assumption | (simp; omega))); (try simp only [Act.put, aP, aZ, aS]))
        refine pl_done ?_
        (try dsimp only [Exit.inBlock, Exit.then])
        refine (by assumption : ∀ a' w', Handed _ _ a' w' → _) _ _ ?_
        go_roundg (gk - 1)
        case rel => exact ⟨q + 1, by go_num, by omega, by omega, (by assumption : Sat w0 _ _).pick (by (repeat (first | exact Pick.nil _ | exact Pick.tail _ | exact Out.here _ | apply Out.there | apply Pick.cons | apply Pick.drop)))⟩
        case measure => omega
      · have i1 : ¬ (q : Int) < (n9 : Int) := by omega
        refine wk_seq (fun K41 hK41 => ?_)
        refine wk_seq (fun K42 hK42 => ?_)
        refine wk_reg ?_
        iterate 3 (refine pl_take (v := ?_) rfl ?_ ?_; rotate_left; (· (go_simp; first | done | with_reducible rfl | rfl | omega | assumption | (simp; omega))); (try simp only [Act.put, aP, aZ, aS]))
        refine pl_take (v := .bool false) rfl ?_ ?_
        · (go_simp; first | done | with_reducible rfl | rfl | omega | assumption | (simp; omega))
        (try simp only [Act.put, aP, aZ, aS])
        refine pl_done ?_
        refine hK42.out _ _ ?_
        (try clear hK42 K42)
        refine wp_cond_false rfl ?_
        refine wp_exit ?_
        refine hK39.out _ _ ?_
        (try clear hK39 K39)
        refine wk_seq (fun K46 hK46 => ?_)
        refine wk_reg ?_
        refine pl_take (v := .bool true) rfl ?_ ?_
        · (go_simp; first | done | with_reducible rfl | rfl | omega | assumption | (simp; omega))
        (try simp only [Act.put, aP, aZ, aS])
        refine pl_done ?_
        refine hK46.out _ _ ?_
        (try clear hK46 K46)
        refine wp_ret ?_
        go_ret
        exact ⟨rfl, (by assumption : Sat w0 _ _).pick (by (repeat (first | exact Pick.nil _ | exact Pick.tail _ | exact Out.here _ | apply Out.there | apply Pick.cons | apply Pick.drop)))⟩
end Go.Proofs.Ytdlimjcidblneaa
