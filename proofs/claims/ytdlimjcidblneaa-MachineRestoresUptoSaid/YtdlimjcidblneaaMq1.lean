/-
  The document's machine in memory: what stands for it; New, Next, find, put, trim.
-/
import Derived.Test.YtdlimjcidblneaaMs3
namespace Go.Proofs.Ytdlimjcidblneaa
open Go Go.RowKit Sl Go.Shelf
set_option maxHeartbeats 20000000
set_option maxRecDepth 8000

def sesRow (x : Int × Se) : List Value := [.int .i64 x.1, .int .i64 x.2.q, .int .i64 x.2.n, .int .i64 x.2.t]
def sesCells (ss : List (Int × Se)) : List Value := (ss.map sesRow).flatten

theorem sesCells_at {ss : List (Int × Se)} {k : Nat} {x : Int × Se} (h : ss[k]? = some x) : ((sesCells ss).drop (k * 4)).take 4 = sesRow x := by
  induction ss generalizing k with
  | nil => simp at h
  | cons y ss ih =>
    cases k with
    | zero => simp at h; subst h; simp [sesCells, sesRow]
    | succ k =>
      have h' : ss[k]? = some x := by simpa using h
      have := ih h'
      rw [show (k + 1) * 4 = 4 + k * 4 from by omega, ← List.drop_drop]
      simpa [sesCells, sesRow] using this

theorem sesCells_cell {ss : List (Int × Se)} {k j : Nat} {x : Int × Se} {v : Value} (h : ss[k]? = some x) (hj : (sesRow x)[j]? = some v) : (sesCells ss)[k * 4 + j]? = some v := by
  rw [← sesCells_at h, List.getElem?_take] at hj
  split at hj
  · rwa [List.getElem?_drop] at hj
  · cases hj

theorem sesCells_snoc (ss : List (Int × Se)) (x : Int × Se) : sesCells (ss ++ [x]) = sesCells ss ++ sesRow x := by simp [sesCells]
theorem sesCells_one (ss : List (Int × Se)) : ∀ u ∈ sesCells ss, u.oneCell' = true := by
  intro u hu
  simp only [sesCells, List.mem_flatten, List.mem_map] at hu
  obtain ⟨_, ⟨x, _, rfl⟩, hu⟩ := hu
  simp only [sesRow, List.mem_cons, List.not_mem_nil, or_false] at hu
  rcases hu with rfl | rfl | rfl | rfl <;> rfl

theorem sesCells_set {ss : List (Int × Se)} {k : Nat} {x : Int × Se} (h : ss[k]? = some x) (y : Int × Se) (j : Nat) (v : Value) (hj : j < 4) (hy : (sesRow x).set j v = sesRow y) : (sesCells ss).set (k * 4 + j) v = sesCells (ss.set k y) := by
  induction ss generalizing k with
  | nil => simp at h
  | cons z ss ih =>
    cases k with
    | zero =>
      simp at h; subst h
      simp only [sesCells, List.map_cons, List.flatten_cons, List.set_cons_zero, Nat.zero_mul, Nat.zero_add]
      rw [List.set_append_left _ _ (by simpa [sesRow] using hj), hy]
    | succ k =>
      have h' : ss[k]? = some x := by simpa using h
      have := ih h'
      simp only [sesCells, List.map_cons, List.flatten_cons, List.set_cons_succ] at this ⊢
      rw [List.set_append_right _ _ (by simp [sesRow]; omega), show (k + 1) * 4 + j - (sesRow z).length = k * 4 + j from by simp [sesRow]; omega, this]

abbrev rmBlk (p : Nat) (M : Mc) (X : Option Addr) (cx : Nat) (Y : Option Addr) (cy : Nat) : HP := blk p (.cells #[.int .i64 M.sp, .int .i64 M.ap, .int .i64 M.st, .slice X M.l.length cx, .slice Y M.ss.length cy] 100 (0, 0))
abbrev rmList (p : Nat) (M : Mc) (X : Option Addr) (cx : Nat) (Y : Option Addr) (cy : Nat) (ys : List RecRow) : List HP :=
  [rmBlk p M X cx Y cy, own 33 1 X cx M.l.length (recCells ys), DV (recData ys), own 108 4 Y cy M.ss.length (sesCells M.ss)]

/-- The document's machine lies at p. -/
def RM (p : Nat) (M : Mc) : HP := fun h => ∃ x : Option Addr × Nat × Option Addr × Nat × List RecRow, x.2.2.2.2.map (·.1) = M.l ∧ SatH (rmList p M x.1 x.2.1 x.2.2.1 x.2.2.2.1 x.2.2.2.2) h

theorem RM.opened {w0 w : World} {L : List HP} {p : Nat} {M : Mc} (h : Sat w0 w (RM p M :: L)) :
    ∃ (X : Option Addr) (cx : Nat) (Y : Option Addr) (cy : Nat) (ys : List RecRow), ys.map (·.1) = M.l ∧ Sat w0 w (rmBlk p M X cx Y cy :: own 33 1 X cx M.l.length (recCells ys) :: DV (recData ys) :: own 108 4 Y cy M.ss.length (sesCells M.ss) :: L) := by
  obtain ⟨⟨X, cx, Y, cy, ys⟩, h1⟩ := h.ex
  obtain ⟨h2, h4⟩ := h1.pure
  exact ⟨X, cx, Y, cy, ys, h2, h4.split⟩

theorem RM.made {w0 w : World} {L : List HP} {p : Nat} {M : Mc} {X : Option Addr} {cx : Nat} {Y : Option Addr} {cy : Nat} {ys : List RecRow} (h1 : ys.map (·.1) = M.l)
    (h : Sat w0 w (rmBlk p M X cx Y cy :: own 33 1 X cx M.l.length (recCells ys) :: DV (recData ys) :: own 108 4 Y cy M.ss.length (sesCells M.ss) :: L)) : Sat w0 w (RM p M :: L) := by
  have h3 : Sat w0 w (SatH (rmList p M X cx Y cy ys) :: L) := Sat.join (M := rmList p M X cx Y cy ys) h
  exact h3.to_head fun _ hb => ⟨(X, cx, Y, cy, ys), h1, hb⟩

theorem newR_spec {w0 w : World} {L : List HP} (sp : Int) (h : 1 ≤ sp ∧ sp ≤ 1099511627776) (hs : Sat w0 w L) :
    Calls Try.prog 32 #[.int .i64 sp] w (fun e w' => ∃ p, e = .returned (.pointer (some ⟨p, 0, none⟩)) ∧ Sat w0 w' (RM p (Mc.new sp) :: L)) := by
  go_enter Try.func32, Try.ntmps32
  refine wk_seq (fun K0 hK0 => ?_); refine wk_reg ?_; refine pl_take (v := ?_) rfl ?_ ?_; rotate_left; (· (go_simp; first | done | with_reducible rfl | rfl | omega | assumption | (simp; omega))); (try simp only [Act.put, aP, aZ, aS]); refine pl_done ?_; refine hK0.out _ _ ?_; (try clear hK0 K0); refine wk_seq (fun K1 hK1 => ?_); refine wk_seq (fun K2 hK2 => ?_); refine wk_reg ?_; refine pl_take (v := ?_) rfl ?_ ?_; rotate_left; (· (go_simp; first | done | with_reducible rfl | rfl | omega | assumption | (simp; omega))); (try simp only [Act.put, aP, aZ, aS]); (iterate 2 (refine pl_take (v := .bool false) rfl ?_ ?_; (· (go_simp; first | done | with_reducible rfl | rfl | omega | assumption | (simp; omega))); (try simp only [Act.put, aP, aZ, aS]))); refine pl_take (v := ?_) (by kernel_rfl) ?_ ?_; rotate_left; (· (go_simp; first | done | with_reducible rfl | rfl | omega | assumption | (simp; omega))); (try simp only [Act.put, aP, aZ, aS]); refine pl_take (v := .bool false) (by kernel_rfl) ?_ ?_; (· (go_simp; first | done | with_reducible rfl | rfl | omega | assumption | (simp; omega))); (try simp only [Act.put, aP, aZ, aS]); refine pl_take (v := .bool false) rfl ?_ ?_; (· (go_simp; first | done | with_reducible rfl | rfl | omega | assumption | (simp; omega))); (try simp only [Act.put, aP, aZ, aS]); refine pl_done ?_; refine hK2.out _ _ ?_; (try clear hK2 K2); refine wp_cond_false rfl ?_; refine wp_skip ?_; refine hK1.out _ _ ?_; (try clear hK1 K1); refine wk_seq (fun K4 hK4 => ?_); refine wk_reg ?_; (iterate 2 (refine pl_take (v := ?_) rfl ?_ ?_; rotate_left; (· (go_simp; first | done | with_reducible rfl | rfl | omega | assumption | (simp; omega))); (try simp only [Act.put, aP, aZ, aS]))); refine pl_eff rfl (fun Kp hKp => ?_); ((with_reducible apply st_box); assumption; (go_simp; rfl); intro b11 w11 hs11; simp only [Value.cells] at hs11); refine hKp.out _ _ ?_; clear hKp Kp; (try simp only [Act.put, aP, aZ, aS]); refine pl_take (v := ?_) rfl ?_ ?_; rotate_left; (· (go_simp; first | done | with_reducible rfl | rfl | omega | assumption | (simp; omega))); (try simp only [Act.put, aP, aZ, aS]); refine pl_done ?_; refine hK4.out _ _ ?_; (try clear hK4 K4); refine wp_ret ?_
  go_ret
  refine ⟨b11, rfl, RM.made (X := none) (cx := 0) (Y := none) (cy := 0) (ys := []) rfl ?_⟩
  exact (((((by assumption : Sat w0 _ (blk b11 _ :: L)).own_nil 33 1).dv_nil).own_nil 108 4).pick (by (repeat (first | exact Pick.nil _ | exact Pick.tail _ | exact Out.here _ | apply Out.there | apply Pick.cons | apply Pick.drop))))

theorem newR_no {w0 w : World} {L : List HP} (sp : Int) (h : ¬ (1 ≤ sp ∧ sp ≤ 1099511627776)) (hs : Sat w0 w L) :
    Calls Try.prog 32 #[.int .i64 sp] w (fun e w' => e = .returned (.pointer none) ∧ Sat w0 w' L) := by
  by_cases h1 : sp < 1
  · go_enter Try.func32, Try.ntmps32
    refine wk_seq (fun K0 hK0 => ?_); refine wk_reg ?_; refine pl_take (v := ?_) rfl ?_ ?_; rotate_left; (· (go_simp; first | done | with_reducible rfl | rfl | omega | assumption | (simp; omega))); (try simp only [Act.put, aP, aZ, aS]); refine pl_done ?_; refine hK0.out _ _ ?_; (try clear hK0 K0); refine wk_seq (fun K1 hK1 => ?_); refine wk_seq (fun K2 hK2 => ?_); refine wk_reg ?_; refine pl_take (v := ?_) rfl ?_ ?_; rotate_left; (· (go_simp; first | done | with_reducible rfl | rfl | omega | assumption | (simp; omega))); (try simp only [Act.put, aP, aZ, aS]); (iterate 2 (refine pl_take (v := .bool true) rfl ?_ ?_; (· (go_simp; first | done | with_reducible rfl | rfl | omega | assumption | (simp; omega))); (try simp only [Act.put, aP, aZ, aS]))); (iterate 2 (refine pl_skip (by kernel_rfl) ?_; (try simp only [Act.put, aP, aZ, aS]))); refine pl_take (v := .bool true) rfl ?_ ?_; (· (go_simp; first | done | with_reducible rfl | rfl | omega | assumption | (simp; omega))); (try simp only [Act.put, aP, aZ, aS]); refine pl_done ?_; refine hK2.out _ _ ?_; (try clear hK2 K2); refine wp_cond_true rfl ?_; refine wk_seq (fun K3 hK3 => ?_); refine wk_reg ?_; refine pl_take (v := ?_) rfl ?_ ?_; rotate_left; (· (go_simp; first | done | with_reducible rfl | rfl | omega | assumption | (simp; omega))); (try simp only [Act.put, aP, aZ, aS]); refine pl_done ?_; refine hK3.out _ _ ?_; (try clear hK3 K3); refine wp_ret ?_
    go_ret
    exact ⟨rfl, (by assumption : Sat w0 _ _).pick (by (repeat (first | exact Pick.nil _ | exact Pick.tail _ | exact Out.here _ | apply Out.there | apply Pick.cons | apply Pick.drop)))⟩
  · have h2 : 1099511627776 < sp := by omega
    go_enter Try.func32, Try.ntmps32
    refine wk_seq (fun K0 hK0 => ?_); refine wk_reg ?_; refine pl_take (v := ?_) rfl ?_ ?_; rotate_left; (· (go_simp; first | done | with_reducible rfl | rfl | omega | assumption | (simp; omega))); (try simp only [Act.put, aP, aZ, aS]); refine pl_done ?_; refine hK0.out _ _ ?_; (try clear hK0 K0); refine wk_seq (fun K1 hK1 => ?_); refine wk_seq (fun K2 hK2 => ?_); refine wk_reg ?_; refine pl_take (v := ?_) rfl ?_ ?_; rotate_left; (· (go_simp; first | done | with_reducible rfl | rfl | omega | assumption | (simp; omega))); (try simp only [Act.put, aP, aZ, aS]); (iterate 2 (refine pl_take (v := .bool false) rfl ?_ ?_; (· (go_simp; first | done | with_reducible rfl | rfl | omega | assumption | (simp; omega))); (try simp only [Act.put, aP, aZ, aS]))); refine pl_take (v := ?_) (by kernel_rfl) ?_ ?_; rotate_left; (· (go_simp; first | done | with_reducible rfl | rfl | omega | assumption | (simp; omega))); (try simp only [Act.put, aP, aZ, aS]); refine pl_take (v := .bool true) (by kernel_rfl) ?_ ?_; (· (go_simp; first | done | with_reducible rfl | rfl | omega | assumption | (simp; omega))); (try simp only [Act.put, aP, aZ, aS]); refine pl_take (v := .bool true) rfl ?_ ?_; (· (go_simp; first | done | with_reducible rfl | rfl | omega | assumption | (simp; omega))); (try simp only [Act.put, aP, aZ, aS]); refine pl_done ?_; refine hK2.out _ _ ?_; (try clear hK2 K2); refine wp_cond_true rfl ?_; refine wk_seq (fun K3 hK3 => ?_); refine wk_reg ?_; refine pl_take (v := ?_) rfl ?_ ?_; rotate_left; (· (go_simp; first | done | with_reducible rfl | rfl | omega | assumption | (simp; omega))); (try simp only [Act.put, aP, aZ, aS]); refine pl_done ?_; refine hK3.out _ _ ?_; (try clear hK3 K3); refine wp_ret ?_
    go_ret
    exact ⟨rfl, (by assumption : Sat w0 _ _).pick (by (repeat (first | exact Pick.nil _ | exact Pick.tail _ | exact Out.here _ | apply Out.there | apply Pick.cons | apply Pick.drop)))⟩

theorem nextR_spec {w0 w : World} {L : List HP} {p n cx : Nat} {X : Option Addr} {st : Int} (h0 : 0 ≤ st) (h1 : st + n ≤ 4398046511104) (hs : Sat w0 w L) (hc2 : Cl w0 L ⟨p, 2, none⟩ (.int .i64 st)) (hc3 : Cl w0 L ⟨p, 3, none⟩ (.slice X n cx)) :
    Calls Try.prog 58 #[.pointer (some ⟨p, 0, none⟩)] w (fun e w' => e = .returned (.int .i64 (st + n)) ∧ Sat w0 w' L) := by
  have hw : IntKind.i64.wrap (st + (n : Int)) = st + (n : Int) := IntWalk.i64_in _ (by omega)
  go_enter Try.func58, Try.ntmps58
  refine wk_seq (fun K0 hK0 => ?_); refine wk_reg ?_; refine pl_take (v := ?_) rfl ?_ ?_; rotate_left; (· (go_simp; first | done | with_reducible rfl | rfl | omega | assumption | (simp; omega))); (try simp only [Act.put, aP, aZ, aS]); refine pl_done ?_; refine hK0.out _ _ ?_; (try clear hK0 K0); refine wk_seq (fun K1 hK1 => ?_); refine rg_start rfl (by assumption) (fun wr1 hsr1 => ?_); refine rkT 0 (v := ?_) rfl (hy := ?_) (h := ?_); rotate_left; (· intro w hSw; (go_simp; first | done | with_reducible rfl | rfl | omega | assumption | (simp; omega))); (try simp only [Act.put, aP, aZ, aS]); refine rkT 1 (v := ?_) rfl (hy := ?_) (h := ?_); rotate_left; (· intro w hSw; (go_simp; first | done | with_reducible rfl | rfl | omega | assumption | (simp; omega))); (try simp only [Act.put, aP, aZ, aS]); refine rkT 2 (v := ?_) rfl (hy := ?_) (h := ?_); rotate_left; (· intro w hSw; (go_simp; first | done | with_reducible rfl | rfl | omega | assumption | (simp; omega))); (try simp only [Act.put, aP, aZ, aS]); refine rkT 3 (v := ?_) rfl (hy := ?_) (h := ?_); rotate_left; (· intro w hSw; ((with_reducible apply yl_load); assumption; rfl; (repeat (first | with_reducible assumption | ((with_reducible apply Cl.own); exact rfl) | ((with_reducible apply Cl.blkL); exact rfl) | with_reducible apply Cl.cons)); rfl)); (try simp only [Act.put, aP, aZ, aS]); refine rkT 4 (v := ?_) rfl (hy := ?_) (h := ?_); rotate_left; (· intro w hSw; (go_simp; first | done | with_reducible rfl | rfl | omega | assumption | (simp; omega))); (try simp only [Act.put, aP, aZ, aS]); refine rkT 5 (v := ?_) rfl (hy := ?_) (h := ?_); rotate_left; (· intro w hSw; (go_simp; first | done | with_reducible rfl | rfl | omega | assumption | (simp; omega))); (try simp only [Act.put, aP, aZ, aS]); refine rkT 6 (v := ?_) rfl (hy := ?_) (h := ?_); rotate_left; (· intro w hSw; (go_simp; first | done | with_reducible rfl | rfl | omega | assumption | (simp; omega))); (try simp only [Act.put, aP, aZ, aS]); refine rkT 7 (v := ?_) rfl (hy := ?_) (h := ?_); rotate_left; (· intro w hSw; ((with_reducible apply yl_load); assumption; rfl; (repeat (first | with_reducible assumption | ((with_reducible apply Cl.own); exact rfl) | ((with_reducible apply Cl.blkL); exact rfl) | with_reducible apply Cl.cons)); rfl)); (try simp only [Act.put, aP, aZ, aS]); refine rkT 8 (v := ?_) rfl (hy := ?_) (h := ?_); rotate_left; (· intro w hSw; (go_simp; first | done | with_reducible rfl | rfl | omega | assumption | (simp; omega))); (try simp only [Act.put, aP, aZ, aS]); refine rkT 9 (v := ?_) rfl (hy := ?_) (h := ?_); rotate_left; (· intro w hSw; (go_simp; first | done | with_reducible rfl | rfl | omega | assumption | (simp; omega))); (try simp only [Act.put, aP, aZ, aS]); refine rkT 10 (v := ?_) rfl (hy := ?_) (h := ?_); rotate_left; (· intro w hSw; (go_simp; first | done | with_reducible rfl | rfl | omega | assumption | (simp; omega))); (try simp only [Act.put, aP, aZ, aS]); refine rg_done (by kernel_rfl) ?_; refine hK1.out _ _ ?_; (try clear hK1 K1); refine wp_ret ?_
  go_ret
  exact ⟨rfl, (by assumption : Sat w0 _ _).pick (by (repeat (first | exact Pick.nil _ | exact Pick.tail _ | exact Out.here _ | apply Out.there | apply Pick.cons | apply Pick.drop)))⟩

/-- Where a session stands. -/
inductive FindAt (ss : List (Int × Se)) (id : Int) (k : Int) : Prop
  | at (n : Nat) (s : Se) (h : ss[n]? = some (id, s)) (hk : k = n)
  | no (h : ∀ x ∈ ss, x.1 ≠ id) (hk : k = -1)

theorem findR_spec {w0 w : World} {L : List HP} {p : Nat} {M : Mc} {X : Option Addr} {cx : Nat} {Y : Option Addr} {cy : Nat} (id : Int) (hl : M.ss.length ≤ 1048576) (hs : Sat w0 w (rmBlk p M X cx Y cy :: own 108 4 Y cy M.ss.length (sesCells M.ss) :: L)) :
    Calls Try.prog 74 #[.pointer (some ⟨p, 0, none⟩), .int .i64 id] w (fun e w' => ∃ k : Int, FindAt M.ss id k ∧ e = .returned (.int .i64 k) ∧ Sat w0 w' (rmBlk p M X cx Y cy :: own 108 4 Y cy M.ss.length (sesCells M.ss) :: L)) := by
  obtain ⟨sp, ap, st, l, ss⟩ := M
  simp only at hl hs ⊢
  go_enter Try.func74, Try.ntmps74
  refine wk_seq (fun K0 hK0 => ?_); refine wk_reg ?_; refine pl_take (v := ?_) rfl ?_ ?_; rotate_left; (· (go_simp; first | done | with_reducible rfl | rfl | omega | assumption | (simp; omega))); (try simp only [Act.put, aP, aZ, aS]); refine pl_done ?_; refine hK0.out _ _ ?_; (try clear hK0 K0); refine wk_seq (fun K1 hK1 => ?_); refine wk_seq (fun K2 hK2 => ?_); refine wk_reg ?_; refine pl_take (v := ?_) rfl ?_ ?_; rotate_left; (· (go_simp; first | done | with_reducible rfl | rfl | omega | assumption | (simp; omega))); (try simp only [Act.put, aP, aZ, aS]); refine pl_done ?_; refine hK2.out _ _ ?_; (try clear hK2 K2); refine wp_block ?_
  -- at a loop
  go_loopg [5] ss.length (fun g s5 wr => ∃ i : Nat, s5 = .int .i64 i ∧ i ≤ ss.length ∧ ss.length - i ≤ g ∧ Hid (∀ x ∈ ss.take i, x.1 ≠ id) ∧ Sat w0 wr (rmBlk p ⟨sp, ap, st, l, ss⟩ X cx Y cy :: own 108 4 Y cy ss.length (sesCells ss) :: L))
  case atStart => exact ⟨0, rfl, Nat.zero_le _, Nat.le_refl _, by simp [Hid], hs⟩
  case round =>
    obtain ⟨i, rfl, hi, hg, Hn, hsC⟩ := hrel
    clear hs
    have i0 : (0 : Int) ≤ (i : Int) := by omega
    by_cases hlt : i < ss.length
    · obtain ⟨x, hx⟩ : ∃ x, ss[i]? = some x := ⟨ss[i], List.getElem?_eq_getElem hlt⟩
      have i1 : (i : Int) < (ss.length : Int) := by omega
      have hwk : IntKind.i64.wrap ((i : Int) + 1) = (i : Int) + 1 := IntWalk.i64_in _ (by omega)
      obtain ⟨gy, rfl⟩ := (hsC.pick (T := own 108 4 Y cy ss.length (sesCells ss) :: L) (by (repeat (first | exact Pick.nil _ | exact Pick.tail _ | exact Out.here _ | apply Out.there | apply Pick.cons | apply Pick.drop)))).own_some (by omega)
      have hc : Cl w0 (own 108 4 (some ⟨gy, 0, none⟩) cy ss.length (sesCells ss) :: L) ⟨gy, i * 4, none⟩ (.int .i64 x.1) := by
        have := (Rd.own (w0 := w0) (E := 108) (c := cy) (A := some ⟨gy, 0, none⟩) (n := ss.length) (sz := 4) (xs := sesCells ss) (L := L)).cell_at (j := i * 4 + 0) (u := .int .i64 x.1) (sesCells_cell hx rfl)
        simpa using this
      have Hx := Hid.mk' hx
      clear hx
      by_cases hk : x.1 = id
      · have Hk := Hid.mk' hk
        obtain ⟨id', s⟩ := x
        simp only at hk hc
        subst hk
        refine wk_seq (fun K3 hK3 => ?_); refine wk_seq (fun K4 hK4 => ?_); refine wk_reg ?_; (iterate 6 (refine pl_take (v := ?_) rfl ?_ ?_; rotate_left; (· (first | ((with_reducible apply yl_load); assumption; rfl; (repeat (first | with_reducible assumption | ((with_reducible apply Cl.own); exact rfl) | ((with_reducible apply Cl.blkL); exact rfl) | with_reducible apply Cl.cons)); rfl) | (go_simp; first | done | with_reducible rfl | rfl | omega | assumption | (simp; omega)))); (try simp only [Act.put, aP, aZ, aS]))); refine pl_take (v := .bool true) rfl ?_ ?_; (· (go_simp; first | done | with_reducible rfl | rfl | omega | assumption | (simp; omega))); (try simp only [Act.put, aP, aZ, aS]); refine pl_done ?_; refine hK4.out _ _ ?_; (try clear hK4 K4); refine wp_cond_true rfl ?_; refine wp_skip ?_; refine hK3.out _ _ ?_; (try clear hK3 K3); refine wk_seq (fun K5 hK5 => ?_); refine wp_block ?_; refine wk_seq (fun K6 hK6 => ?_); refine wk_reg ?_; (iterate 9 (refine pl_take (v := ?_) rfl ?_ ?_; rotate_left; (· (first | ((with_reducible apply yl_load); assumption; rfl; (repeat (first | with_reducible assumption | ((with_reducible apply Cl.own); exact rfl) | ((with_reducible apply Cl.blkL); exact rfl) | with_reducible apply Cl.cons)); rfl) | (go_simp; first | done | with_reducible rfl | rfl | omega | assumption | (simp; omega)))); (try simp only [Act.put, aP, aZ, aS]))); refine pl_take (v := .bool true) rfl ?_ ?_; (· (go_simp; first | done | with_reducible rfl | rfl | omega | assumption | (simp; omega))); (try simp only [Act.put, aP, aZ, aS]); refine pl_done ?_; refine hK6.out _ _ ?_; (try clear hK6 K6); refine wp_cond_true rfl ?_; refine wk_seq (fun K7 hK7 => ?_); refine wk_reg ?_; (iterate 2 (refine pl_take (v := ?_) rfl ?_ ?_; rotate_left; (· (go_simp; first | done | with_reducible rfl | rfl | omega | assumption | (simp; omega))); (try simp only [Act.put, aP, aZ, aS]))); refine pl_done ?_; refine hK7.out _ _ ?_; (try clear hK7 K7); refine wp_ret ?_
        go_ret
        exact ⟨(i : Int), .at i s Hx.out rfl, rfl, (by assumption : Sat w0 _ _).pick (by (repeat (first | exact Pick.nil _ | exact Pick.tail _ | exact Out.here _ | apply Out.there | apply Pick.cons | apply Pick.drop)))⟩
      · skip
        refine wk_seq (fun K3 hK3 => ?_); refine wk_seq (fun K4 hK4 => ?_); refine wk_reg ?_; (iterate 6 (refine pl_take (v := ?_) rfl ?_ ?_; rotate_left; (· (first | ((with_reducible apply yl_load); assumption; rfl; (repeat (first | with_reducible assumption | ((with_reducible apply Cl.own); exact rfl) | ((with_reducible apply Cl.blkL); exact rfl) | with_reducible apply Cl.cons)); rfl) | (go_simp; first | done | with_reducible rfl | rfl | omega | assumption | (simp; omega)))); (try simp only [Act.put, aP, aZ, aS]))); refine pl_take (v := .bool true) rfl ?_ ?_; (· (go_simp; first | done | with_reducible rfl | rfl | omega | assumption | (simp; omega))); (try simp only [Act.put, aP, aZ, aS]); refine pl_done ?_; refine hK4.out _ _ ?_; (try clear hK4 K4); refine wp_cond_true rfl ?_; refine wp_skip ?_; refine hK3.out _ _ ?_; (try clear hK3 K3); refine wk_seq (fun K5 hK5 => ?_); refine wp_block ?_; refine wk_seq (fun K6 hK6 => ?_); refine wk_reg ?_; (iterate 9 (refine pl_take (v := ?_) rfl ?_ ?_; rotate_left; (· (first | ((with_reducible apply yl_load); assumption; rfl; (repeat (first | with_reducible assumption | ((with_reducible apply Cl.own); exact rfl) | ((with_reducible apply Cl.blkL); exact rfl) | with_reducible apply Cl.cons)); rfl) | (go_simp; first | done | with_reducible rfl | rfl | omega | assumption | (simp; omega)))); (try simp only [Act.put, aP, aZ, aS]))); refine pl_take (v := .bool false) rfl ?_ ?_; (· (go_simp; first | done | with_reducible rfl | rfl | omega | assumption | (simp; omega))); (try simp only [Act.put, aP, aZ, aS]); refine pl_done ?_; refine hK6.out _ _ ?_; (try clear hK6 K6); refine wp_cond_false rfl ?_; refine wp_skip ?_; refine hK5.out _ _ ?_; (try clear hK5 K5); refine wk_reg ?_; (iterate 3 (refine pl_take (v := ?_) rfl ?_ ?_; rotate_left; (· (go_simp; first | done | with_reducible rfl | rfl | omega | assumption | (simp; omega))); (try simp only [Act.put, aP, aZ, aS]))); refine pl_done ?_; (try dsimp only [Exit.inBlock, Exit.then])
        refine (by assumption : ∀ a' w', Handed _ _ a' w' → _) _ _ ?_
        go_roundg (gk - 1)
        case measure => omega
        case rel => exact ⟨i + 1, by go_num, by omega, by omega, Hid.mk' (fun y hy => by rw [take_snocM Hx.out] at hy; rcases List.mem_append.1 hy with hy | hy; exact Hn.out y hy; (simp only [List.mem_singleton] at hy; subst hy; exact hk)), (by assumption : Sat w0 _ _).pick (by (repeat (first | exact Pick.nil _ | exact Pick.tail _ | exact Out.here _ | apply Out.there | apply Pick.cons | apply Pick.drop)))⟩
    · obtain rfl : i = ss.length := by omega
      rw [List.take_length] at Hn
      refine wk_seq (fun K3 hK3 => ?_); refine wk_seq (fun K4 hK4 => ?_); refine wk_reg ?_; (iterate 6 (refine pl_take (v := ?_) rfl ?_ ?_; rotate_left; (· (first | ((with_reducible apply yl_load); assumption; rfl; (repeat (first | with_reducible assumption | ((with_reducible apply Cl.own); exact rfl) | ((with_reducible apply Cl.blkL); exact rfl) | with_reducible apply Cl.cons)); rfl) | (go_simp; first | done | with_reducible rfl | rfl | omega | assumption | (simp; omega)))); (try simp only [Act.put, aP, aZ, aS]))); refine pl_take (v := .bool false) rfl ?_ ?_; (· (go_simp; first | done | with_reducible rfl | rfl | omega | assumption | (simp; omega))); (try simp only [Act.put, aP, aZ, aS]); refine pl_done ?_; refine hK4.out _ _ ?_; (try clear hK4 K4); refine wp_cond_false rfl ?_; refine wp_exit ?_; refine hK1.out _ _ ?_; (try clear hK1 K1); refine wk_seq (fun K8 hK8 => ?_); refine wk_reg ?_; refine pl_take (v := ?_) rfl ?_ ?_; rotate_left; (· (go_simp; first | done | with_reducible rfl | rfl | omega | assumption | (simp; omega))); (try simp only [Act.put, aP, aZ, aS]); refine pl_done ?_; refine hK8.out _ _ ?_; (try clear hK8 K8); refine wp_ret ?_
      go_ret
      exact ⟨-1, .no Hn.out rfl, rfl, (by assumption : Sat w0 _ _).pick (by (repeat (first | exact Pick.nil _ | exact Pick.tail _ | exact Out.here _ | apply Out.there | apply Pick.cons | apply Pick.drop)))⟩
end Go.Proofs.Ytdlimjcidblneaa
