/-
  The machine in memory: what stands for it; New, none, Next.
-/
import Derived.Test.YtdlimjcidblneaaMc3
import Derived.Test.YtdlimjcidblneaaEntL
import Derived.WalkArith
namespace Go.Proofs.Ytdlimjcidblneaa
open Go Go.RowKit Sl Go.Shelf
set_option maxHeartbeats 20000000
set_option maxRecDepth 8000

/-- A session. -/
structure Se where
  q : Int
  n : Int
  t : Int

/-- A machine. -/
structure Mc where
  sp : Int
  ap : Int
  st : Int
  l : List (List UInt8)
  ss : List (Int × Se)

structure Mc.Ok (M : Mc) : Prop where
  sp : 1 ≤ M.sp ∧ M.sp ≤ 1099511627776
  ap : 0 ≤ M.ap ∧ M.ap < 1099511627776
  st : 0 ≤ M.st
  len : M.st + M.l.length ≤ M.ap + 1099511627776
  ids : ∀ x ∈ M.ss, 0 < x.1 ∧ x.1 ≤ M.ap

abbrev RecRow := List UInt8 × Option Addr × Nat
def recCells (ys : List RecRow) : List Value := ys.map fun y => .slice y.2.1 y.1.length y.2.2
def recData (ys : List RecRow) : List (Option Addr × List UInt8) := ys.map fun y => (y.2.1, y.1)
abbrev SesRow := Int × Nat × Se
def seStrip (bs : List SesRow) : List (Int × Se) := bs.map fun x => (x.1, x.2.2)
def seMap (bs : List SesRow) : List (Int × Value) := bs.map fun x => (x.1, .pointer (some ⟨x.2.1, 0, none⟩))
def seBlk (x : SesRow) : HP := blk x.2.1 (.cells #[.int .i64 x.2.2.q, .int .i64 x.2.2.n, .int .i64 x.2.2.t] 81 (0, 0))
def seBlks (bs : List SesRow) : List HP := bs.map seBlk

abbrev mcBlk (p : Nat) (M : Mc) (X : Option Addr) (cx b : Nat) : HP := blk p (.cells #[.int .i64 M.sp, .int .i64 M.ap, .int .i64 M.st, .slice X M.l.length cx, .map (some b)] 74 (0, 0))
abbrev mcList (p : Nat) (M : Mc) (X : Option Addr) (cx b : Nat) (ys : List RecRow) (bs : List SesRow) : List HP :=
  [mcBlk p M X cx b, own 33 1 X cx M.l.length (recCells ys), DV (recData ys), mp (Value.int .i64) In64 b (seMap bs), SatH (seBlks bs)]

/-- A machine lies at p. -/
def MR (p : Nat) (M : Mc) : HP := fun h => ∃ x : Option Addr × Nat × Nat × List RecRow × List SesRow, (x.2.2.2.1.map (·.1) = M.l ∧ seStrip x.2.2.2.2 = M.ss) ∧ SatH (mcList p M x.1 x.2.1 x.2.2.1 x.2.2.2.1 x.2.2.2.2) h

theorem MR.opened {w0 w : World} {L : List HP} {p : Nat} {M : Mc} (h : Sat w0 w (MR p M :: L)) :
    ∃ (X : Option Addr) (cx b : Nat) (ys : List RecRow) (bs : List SesRow), ys.map (·.1) = M.l ∧ seStrip bs = M.ss ∧ Sat w0 w (mcBlk p M X cx b :: own 33 1 X cx M.l.length (recCells ys) :: DV (recData ys) :: mp (Value.int .i64) In64 b (seMap bs) :: SatH (seBlks bs) :: L) := by
  obtain ⟨⟨X, cx, b, ys, bs⟩, h1⟩ := h.ex
  obtain ⟨⟨h2, h3⟩, h4⟩ := h1.pure
  exact ⟨X, cx, b, ys, bs, h2, h3, h4.split⟩

theorem MR.made {w0 w : World} {L : List HP} {p : Nat} {M : Mc} {X : Option Addr} {cx b : Nat} {ys : List RecRow} {bs : List SesRow} (h1 : ys.map (·.1) = M.l) (h2 : seStrip bs = M.ss)
    (h : Sat w0 w (mcBlk p M X cx b :: own 33 1 X cx M.l.length (recCells ys) :: DV (recData ys) :: mp (Value.int .i64) In64 b (seMap bs) :: SatH (seBlks bs) :: L)) : Sat w0 w (MR p M :: L) := by
  have h3 : Sat w0 w (SatH (mcList p M X cx b ys bs) :: L) := Sat.join (M := mcList p M X cx b ys bs) h
  exact h3.to_head fun _ hb => ⟨(X, cx, b, ys, bs), ⟨h1, h2⟩, hb⟩

instance : MapT Try.prog 72 3 79 := ⟨Try.underlying72⟩

theorem ktInt : KT Try.prog 3 (Value.int .i64) In64 where
  law := Maps.int_keyed Try.underlying3
  key x hx := ⟨_, Maps.keyOf_int_mk Try.underlying3 (WalkArith.wf_i64 (by unfold In64 at hx; omega))⟩
  inj x y h := by cases h; rfl

theorem noneM_spec {w0 w : World} {L : List HP} {p b : Nat} (hs : Sat w0 w L) (hc : Cl w0 L ⟨p, 0 + 4, none⟩ (.map (some b))) :
    Calls Try.prog 37 #[.pointer (some ⟨p, 0, none⟩)] w (RetB w0 L false) := by
  have hc' : Cl w0 L ⟨p, 4, none⟩ (.map (some b)) := hc
  go_enter Try.func37, Try.ntmps37
  refine wk_seq (fun K0 hK0 => ?_); refine wk_reg ?_; refine pl_take (v := .bool false) rfl ?_ ?_; (· (go_simp; first | done | with_reducible rfl | rfl | omega | assumption | (simp; omega))); (try simp only [Act.put, aP, aZ, aS]); refine pl_done ?_; refine hK0.out _ _ ?_; (try clear hK0 K0); refine wk_seq (fun K1 hK1 => ?_); refine wk_reg ?_; refine pl_take (v := ?_) rfl ?_ ?_; rotate_left; (· (go_simp; first | done | with_reducible rfl | rfl | omega | assumption | (simp; omega))); (try simp only [Act.put, aP, aZ, aS]); (iterate 2 (refine pl_take (v := .bool false) rfl ?_ ?_; (· (go_simp; first | done | with_reducible rfl | rfl | omega | assumption | (simp; omega))); (try simp only [Act.put, aP, aZ, aS]))); (iterate 4 (refine pl_take (v := ?_) (by kernel_rfl) ?_ ?_; rotate_left; (· (first | ((with_reducible apply yl_load); assumption; rfl; (repeat (first | with_reducible assumption | ((with_reducible apply Cl.own); exact rfl) | ((with_reducible apply Cl.blkL); exact rfl) | with_reducible apply Cl.cons)); rfl) | (go_simp; first | done | with_reducible rfl | rfl | omega | assumption | (simp; omega)))); (try simp only [Act.put, aP, aZ, aS]))); refine pl_take (v := .bool false) (by kernel_rfl) ?_ ?_; (· (go_simp; first | done | with_reducible rfl | rfl | omega | assumption | (simp; omega))); (try simp only [Act.put, aP, aZ, aS]); (iterate 2 (refine pl_take (v := .bool false) rfl ?_ ?_; (· (go_simp; first | done | with_reducible rfl | rfl | omega | assumption | (simp; omega))); (try simp only [Act.put, aP, aZ, aS]))); refine pl_done ?_; refine hK1.out _ _ ?_; (try clear hK1 K1); refine wp_ret ?_
  go_ret
  exact ⟨rfl, (by assumption : Sat w0 _ _).pick (by (repeat (first | exact Pick.nil _ | exact Pick.tail _ | exact Out.here _ | apply Out.there | apply Pick.cons | apply Pick.drop)))⟩

theorem nextM_spec {w0 w : World} {L : List HP} {p b n cx : Nat} {X : Option Addr} {st : Int} (h0 : 0 ≤ st) (h1 : st + n ≤ 4398046511104) (hs : Sat w0 w L) (hc4 : Cl w0 L ⟨p, 4, none⟩ (.map (some b))) (hc2 : Cl w0 L ⟨p, 2, none⟩ (.int .i64 st)) (hc3 : Cl w0 L ⟨p, 3, none⟩ (.slice X n cx)) :
    Calls Try.prog 16 #[.pointer (some ⟨p, 0, none⟩)] w (fun e w' => e = .returned (.int .i64 (st + n)) ∧ Sat w0 w' L) := by
  have hw : IntKind.i64.wrap (st + (n : Int)) = st + (n : Int) := IntWalk.i64_in _ (by omega)
  go_enter Try.func16, Try.ntmps16
  refine wk_seq (fun K0 hK0 => ?_); refine wk_reg ?_; refine pl_take (v := ?_) rfl ?_ ?_; rotate_left; (· (go_simp; first | done | with_reducible rfl | rfl | omega | assumption | (simp; omega))); (try simp only [Act.put, aP, aZ, aS]); refine pl_done ?_; refine hK0.out _ _ ?_; (try clear hK0 K0); refine wk_seq (fun K1 hK1 => ?_); refine wk_seq (fun K2 hK2 => ?_); refine wk_reg ?_; refine pl_take (v := ?_) rfl ?_ ?_; rotate_left; (· (go_simp; first | done | with_reducible rfl | rfl | omega | assumption | (simp; omega))); (try simp only [Act.put, aP, aZ, aS]); refine pl_eff rfl (fun Kp hKp => ?_); go_simp; (refine (noneM_spec (b := b) (by assumption) (by assumption)).mono ?_; rintro e4 w4 ⟨rfl, hs4⟩); (try go_wp2_with fail); refine hKp.out _ _ ?_; clear hKp Kp; (try simp only [Act.put, aP, aZ, aS]); refine pl_done ?_; refine hK2.out _ _ ?_; (try clear hK2 K2); refine wp_cond_false rfl ?_; refine wp_skip ?_; refine hK1.out _ _ ?_; (try clear hK1 K1); refine wk_seq (fun K4 hK4 => ?_); refine rg_start rfl (by assumption) (fun wr3 hsr3 => ?_); refine rkT 0 (v := ?_) rfl (hy := ?_) (h := ?_); rotate_left; (· intro w hSw; (go_simp; first | done | with_reducible rfl | rfl | omega | assumption | (simp; omega))); (try simp only [Act.put, aP, aZ, aS]); refine rkT 1 (v := ?_) rfl (hy := ?_) (h := ?_); rotate_left; (· intro w hSw; (go_simp; first | done | with_reducible rfl | rfl | omega | assumption | (simp; omega))); (try simp only [Act.put, aP, aZ, aS]); refine rkT 2 (v := ?_) rfl (hy := ?_) (h := ?_); rotate_left; (· intro w hSw; (go_simp; first | done | with_reducible rfl | rfl | omega | assumption | (simp; omega))); (try simp only [Act.put, aP, aZ, aS]); refine rkT 3 (v := ?_) rfl (hy := ?_) (h := ?_); rotate_left; (· intro w hSw; ((with_reducible apply yl_load); assumption; rfl; (repeat (first | with_reducible assumption | ((with_reducible apply Cl.own); exact rfl) | ((with_reducible apply Cl.blkL); exact rfl) | with_reducible apply Cl.cons)); rfl)); (try simp only [Act.put, aP, aZ, aS]); refine rkT 4 (v := ?_) rfl (hy := ?_) (h := ?_); rotate_left; (· intro w hSw; (go_simp; first | done | with_reducible rfl | rfl | omega | assumption | (simp; omega))); (try simp only [Act.put, aP, aZ, aS]); refine rkT 5 (v := ?_) rfl (hy := ?_) (h := ?_); rotate_left; (· intro w hSw; (go_simp; first | done | with_reducible rfl | rfl | omega | assumption | (simp; omega))); (try simp only [Act.put, aP, aZ, aS]); refine rkT 6 (v := ?_) rfl (hy := ?_) (h := ?_); rotate_left; (· intro w hSw; (go_simp; first | done | with_reducible rfl | rfl | omega | assumption | (simp; omega))); (try simp only [Act.put, aP, aZ, aS]); refine rkT 7 (v := ?_) rfl (hy := ?_) (h := ?_); rotate_left; (· intro w hSw; ((with_reducible apply yl_load); assumption; rfl; (repeat (first | with_reducible assumption | ((with_reducible apply Cl.own); exact rfl) | ((with_reducible apply Cl.blkL); exact rfl) | with_reducible apply Cl.cons)); rfl)); (try simp only [Act.put, aP, aZ, aS]); refine rkT 8 (v := ?_) rfl (hy := ?_) (h := ?_); rotate_left; (· intro w hSw; (go_simp; first | done | with_reducible rfl | rfl | omega | assumption | (simp; omega))); (try simp only [Act.put, aP, aZ, aS]); refine rkT 9 (v := ?_) rfl (hy := ?_) (h := ?_); rotate_left; (· intro w hSw; (go_simp; first | done | with_reducible rfl | rfl | omega | assumption | (simp; omega))); (try simp only [Act.put, aP, aZ, aS]); refine rkT 10 (v := ?_) rfl (hy := ?_) (h := ?_); rotate_left; (· intro w hSw; (go_simp; first | done | with_reducible rfl | rfl | omega | assumption | (simp; omega))); (try simp only [Act.put, aP, aZ, aS]); refine rg_done (by kernel_rfl) ?_; refine hK4.out _ _ ?_; (try clear hK4 K4); refine wp_ret ?_
  go_ret
  exact ⟨rfl, (by assumption : Sat w0 _ _).pick (by (repeat (first | exact Pick.nil _ | exact Pick.tail _ | exact Out.here _ | apply Out.there | apply Pick.cons | apply Pick.drop)))⟩

def Mc.new (sp : Int) : Mc := ⟨sp, 0, 0, [], []⟩

theorem Mc.new_ok {sp : Int} (h : 1 ≤ sp ∧ sp ≤ 1099511627776) : (Mc.new sp).Ok := ⟨h, by simp [Mc.new], by simp [Mc.new], by simp [Mc.new], by simp [Mc.new]⟩

theorem newM_spec {w0 w : World} {L : List HP} (sp : Int) (h : 1 ≤ sp ∧ sp ≤ 1099511627776) (hs : Sat w0 w L) :
    Calls Try.prog 11 #[.int .i64 sp] w (fun e w' => ∃ p, e = .returned (.tuple #[.pointer (some ⟨p, 0, none⟩), .int .i64 0]) ∧ Sat w0 w' (MR p (Mc.new sp) :: L)) := by
  go_enter Try.func11, Try.ntmps11
  refine wk_seq (fun K0 hK0 => ?_); refine wk_reg ?_; (iterate 2 (refine pl_take (v := ?_) rfl ?_ ?_; rotate_left; (· (go_simp; first | done | with_reducible rfl | rfl | omega | assumption | (simp; omega))); (try simp only [Act.put, aP, aZ, aS]))); refine pl_done ?_; refine hK0.out _ _ ?_; (try clear hK0 K0); refine wk_seq (fun K1 hK1 => ?_); refine wk_seq (fun K2 hK2 => ?_); refine wk_reg ?_; refine pl_take (v := ?_) rfl ?_ ?_; rotate_left; (· (go_simp; first | done | with_reducible rfl | rfl | omega | assumption | (simp; omega))); (try simp only [Act.put, aP, aZ, aS]); (iterate 2 (refine pl_take (v := .bool false) rfl ?_ ?_; (· (go_simp; first | done | with_reducible rfl | rfl | omega | assumption | (simp; omega))); (try simp only [Act.put, aP, aZ, aS]))); refine pl_take (v := ?_) (by kernel_rfl) ?_ ?_; rotate_left; (· (go_simp; first | done | with_reducible rfl | rfl | omega | assumption | (simp; omega))); (try simp only [Act.put, aP, aZ, aS]); refine pl_take (v := .bool false) (by kernel_rfl) ?_ ?_; (· (go_simp; first | done | with_reducible rfl | rfl | omega | assumption | (simp; omega))); (try simp only [Act.put, aP, aZ, aS]); refine pl_take (v := .bool false) rfl ?_ ?_; (· (go_simp; first | done | with_reducible rfl | rfl | omega | assumption | (simp; omega))); (try simp only [Act.put, aP, aZ, aS]); refine pl_done ?_; refine hK2.out _ _ ?_; (try clear hK2 K2); refine wp_cond_false rfl ?_; refine wp_skip ?_; refine hK1.out _ _ ?_; (try clear hK1 K1); refine wk_seq (fun K4 hK4 => ?_); refine wk_reg ?_; refine pl_take (v := ?_) rfl ?_ ?_; rotate_left; (· (go_simp; first | done | with_reducible rfl | rfl | omega | assumption | (simp; omega))); (try simp only [Act.put, aP, aZ, aS]); refine pl_eff rfl (fun Kp hKp => ?_); ((with_reducible apply st_makeMap (Value.int .i64) In64); assumption; intro b11 w11 hs11); refine hKp.out _ _ ?_; clear hKp Kp; (try simp only [Act.put, aP, aZ, aS]); refine pl_take (v := ?_) rfl ?_ ?_; rotate_left; (· (go_simp; first | done | with_reducible rfl | rfl | omega | assumption | (simp; omega))); (try simp only [Act.put, aP, aZ, aS]); refine pl_eff rfl (fun Kp hKp => ?_); ((with_reducible apply st_box); assumption; (go_simp; rfl); intro b13 w13 hs13; simp only [Value.cells] at hs13); refine hKp.out _ _ ?_; clear hKp Kp; (try simp only [Act.put, aP, aZ, aS]); (iterate 2 (refine pl_take (v := ?_) rfl ?_ ?_; rotate_left; (· (go_simp; first | done | with_reducible rfl | rfl | omega | assumption | (simp; omega))); (try simp only [Act.put, aP, aZ, aS]))); refine pl_done ?_; refine hK4.out _ _ ?_; (try clear hK4 K4); refine wp_ret ?_
  go_ret2
  refine ⟨b13, rfl, MR.made (X := none) (cx := 0) (b := b11) (ys := []) (bs := []) rfl rfl ?_⟩
  exact (((((by assumption : Sat w0 _ (blk b13 _ :: mp _ _ b11 [] :: L)).own_nil 33 1).dv_nil).bag_nil).pick (by (repeat (first | exact Pick.nil _ | exact Pick.tail _ | exact Out.here _ | apply Out.there | apply Pick.cons | apply Pick.drop))))

theorem newM_no {w0 w : World} {L : List HP} (sp : Int) (h : ¬ (1 ≤ sp ∧ sp ≤ 1099511627776)) (hs : Sat w0 w L) :
    Calls Try.prog 11 #[.int .i64 sp] w (fun e w' => e = .returned (.tuple #[.pointer none, .int .i64 1]) ∧ Sat w0 w' L) := by
  by_cases h1 : sp < 1
  · go_enter Try.func11, Try.ntmps11
    refine wk_seq (fun K0 hK0 => ?_); refine wk_reg ?_; (iterate 2 (refine pl_take (v := ?_) rfl ?_ ?_; rotate_left; (· (go_simp; first | done | with_reducible rfl | rfl | omega | assumption | (simp; omega))); (try simp only [Act.put, aP, aZ, aS]))); refine pl_done ?_; refine hK0.out _ _ ?_; (try clear hK0 K0); refine wk_seq (fun K1 hK1 => ?_); refine wk_seq (fun K2 hK2 => ?_); refine wk_reg ?_; refine pl_take (v := ?_) rfl ?_ ?_; rotate_left; (· (go_simp; first | done | with_reducible rfl | rfl | omega | assumption | (simp; omega))); (try simp only [Act.put, aP, aZ, aS]); (iterate 2 (refine pl_take (v := .bool true) rfl ?_ ?_; (· (go_simp; first | done | with_reducible rfl | rfl | omega | assumption | (simp; omega))); (try simp only [Act.put, aP, aZ, aS]))); (iterate 2 (refine pl_skip (by kernel_rfl) ?_; (try simp only [Act.put, aP, aZ, aS]))); refine pl_take (v := .bool true) rfl ?_ ?_; (· (go_simp; first | done | with_reducible rfl | rfl | omega | assumption | (simp; omega))); (try simp only [Act.put, aP, aZ, aS]); refine pl_done ?_; refine hK2.out _ _ ?_; (try clear hK2 K2); refine wp_cond_true rfl ?_; refine wk_seq (fun K3 hK3 => ?_); refine wk_reg ?_; (iterate 2 (refine pl_take (v := ?_) rfl ?_ ?_; rotate_left; (· (go_simp; first | done | with_reducible rfl | rfl | omega | assumption | (simp; omega))); (try simp only [Act.put, aP, aZ, aS]))); refine pl_done ?_; refine hK3.out _ _ ?_; (try clear hK3 K3); refine wp_ret ?_
    go_ret2
    exact ⟨rfl, (by assumption : Sat w0 _ _).pick (by (repeat (first | exact Pick.nil _ | exact Pick.tail _ | exact Out.here _ | apply Out.there | apply Pick.cons | apply Pick.drop)))⟩
  · have h2 : 1099511627776 < sp := by omega
    go_enter Try.func11, Try.ntmps11
    refine wk_seq (fun K0 hK0 => ?_); refine wk_reg ?_; (iterate 2 (refine pl_take (v := ?_) rfl ?_ ?_; rotate_left; (· (go_simp; first | done | with_reducible rfl | rfl | omega | assumption | (simp; omega))); (try simp only [Act.put, aP, aZ, aS]))); refine pl_done ?_; refine hK0.out _ _ ?_; (try clear hK0 K0); refine wk_seq (fun K1 hK1 => ?_); refine wk_seq (fun K2 hK2 => ?_); refine wk_reg ?_; refine pl_take (v := ?_) rfl ?_ ?_; rotate_left; (· (go_simp; first | done | with_reducible rfl | rfl | omega | assumption | (simp; omega))); (try simp only [Act.put, aP, aZ, aS]); (iterate 2 (refine pl_take (v := .bool false) rfl ?_ ?_; (· (go_simp; first | done | with_reducible rfl | rfl | omega | assumption | (simp; omega))); (try simp only [Act.put, aP, aZ, aS]))); refine pl_take (v := ?_) (by kernel_rfl) ?_ ?_; rotate_left; (· (go_simp; first | done | with_reducible rfl | rfl | omega | assumption | (simp; omega))); (try simp only [Act.put, aP, aZ, aS]); refine pl_take (v := .bool true) (by kernel_rfl) ?_ ?_; (· (go_simp; first | done | with_reducible rfl | rfl | omega | assumption | (simp; omega))); (try simp only [Act.put, aP, aZ, aS]); refine pl_take (v := .bool true) rfl ?_ ?_; (· (go_simp; first | done | with_reducible rfl | rfl | omega | assumption | (simp; omega))); (try simp only [Act.put, aP, aZ, aS]); refine pl_done ?_; refine hK2.out _ _ ?_; (try clear hK2 K2); refine wp_cond_true rfl ?_; refine wk_seq (fun K3 hK3 => ?_); refine wk_reg ?_; (iterate 2 (refine pl_take (v := ?_) rfl ?_ ?_; rotate_left; (· (go_simp; first | done | with_reducible rfl | rfl | omega | assumption | (simp; omega))); (try simp only [Act.put, aP, aZ, aS]))); refine pl_done ?_; refine hK3.out _ _ ?_; (try clear hK3 K3); refine wp_ret ?_
    go_ret2
    exact ⟨rfl, (by assumption : Sat w0 _ _).pick (by (repeat (first | exact Pick.nil _ | exact Pick.tail _ | exact Out.here _ | apply Out.there | apply Pick.cons | apply Pick.drop)))⟩
end Go.Proofs.Ytdlimjcidblneaa
