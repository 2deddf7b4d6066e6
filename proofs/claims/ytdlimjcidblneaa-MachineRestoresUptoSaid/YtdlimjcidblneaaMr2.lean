/-
  Lists of bytes: the same; what is read, as such lists.
-/
import Derived.Test.YtdlimjcidblneaaMr1
namespace Go.Proofs.Ytdlimjcidblneaa
open Go Go.RowKit Sl Go.Shelf
set_option maxHeartbeats 20000000
set_option maxRecDepth 8000

theorem rec_bb {w0 : World} {L : List HP} {X : Option Addr} {n : Nat} {zs : List RecRow} (hn : n = zs.length) (h : Rd w0 L X n 1 (recCells zs)) (hd : ∀ z ∈ zs, Rd w0 L z.2.1 z.1.length 1 (B8 z.1)) : RdBB w0 L X n (zs.map (·.1)) := by
  refine ⟨recCells zs, h, by simp [recCells], by simpa using hn, fun i l hi => ?_⟩
  rw [List.getElem?_map] at hi
  cases hz : zs[i]? with
  | none => rw [hz] at hi; cases hi
  | some z =>
    rw [hz] at hi; cases hi
    exact ⟨z.2.1, z.2.2, by unfold recCells; rw [List.getElem?_map, hz]; rfl, hd z (List.mem_of_getElem? hz)⟩

theorem RdBB.pickd {w0 : World} {L L' : List HP} {A : Option Addr} {n : Nat} {ls : List (List UInt8)} (hp : Pick L' L) (h : RdBB w0 L A n ls) : RdBB w0 L' A n ls := by
  obtain ⟨vs, h1, h2, h3, h4⟩ := h
  exact ⟨vs, fun w hs => h1 w (hs.pick hp), h2, h3, fun i l hi => by obtain ⟨B, c, g1, g2⟩ := h4 i l hi; exact ⟨B, c, g1, fun w hs => g2 w (hs.pick hp)⟩⟩

theorem lists_same {w0 w : World} {L : List HP} {A B : Option Addr} {n m c d : Nat} (ls : List (List UInt8)) (hl : ls.length ≤ 1099511627776) (hs : Sat w0 w L) (hA : RdBB w0 L A n ls) (hB : RdBB w0 L B m ls) :
    Calls Try.prog 26 #[.slice A n c, .slice B m d] w (RetB w0 L true) := by
  obtain ⟨vs, h1, h2, h3, h4⟩ := hA
  obtain ⟨us, g1, g2, g3, g4⟩ := hB
  have hmn : m = n := by omega
  subst hmn
  have hln := Hid.mk' h3
  clear h3 g3
  have hlm : m ≤ 1099511627776 := by rw [hln.out]; exact hl
  go_enter Try.func26, Try.ntmps26
  refine wk_seq (fun K0 hK0 => ?_); refine wk_reg ?_; refine pl_take (v := .bool false) rfl ?_ ?_; (· (go_simp; first | done | with_reducible rfl | rfl | omega | assumption | (simp; omega))); (try simp only [Act.put, aP, aZ, aS]); refine pl_done ?_; refine hK0.out _ _ ?_; (try clear hK0 K0); refine wk_seq (fun K1 hK1 => ?_); refine wk_seq (fun K2 hK2 => ?_); refine wk_reg ?_; (iterate 4 (refine pl_take (v := ?_) rfl ?_ ?_; rotate_left; (· (go_simp; first | done | with_reducible rfl | rfl | omega | assumption | (simp; omega))); (try simp only [Act.put, aP, aZ, aS]))); refine pl_take (v := .bool false) rfl ?_ ?_; (· (go_simp; first | done | with_reducible rfl | rfl | omega | assumption | (simp; omega))); (try simp only [Act.put, aP, aZ, aS]); refine pl_done ?_; refine hK2.out _ _ ?_; (try clear hK2 K2); refine wp_cond_false rfl ?_; refine wp_skip ?_; refine hK1.out _ _ ?_; (try clear hK1 K1); refine wk_seq (fun K4 hK4 => ?_); refine wk_seq (fun K5 hK5 => ?_); refine wk_reg ?_; refine pl_take (v := ?_) rfl ?_ ?_; rotate_left; (· (go_simp; first | done | with_reducible rfl | rfl | omega | assumption | (simp; omega))); (try simp only [Act.put, aP, aZ, aS]); refine pl_done ?_; refine hK5.out _ _ ?_; (try clear hK5 K5); refine wp_block ?_
  -- at a loop
  go_loopw [5] (fun s5 wr => ∃ (k : Nat), s5 = .int .i64 k ∧ k ≤ m ∧ Sat w0 wr L) (fun s5 _ => m - (intOf s5).toNat)
  case atStart => exact ⟨0, rfl, Nat.zero_le _, (by assumption : Sat w0 _ _).pick (by (repeat (first | exact Pick.nil _ | exact Pick.tail _ | exact Out.here _ | apply Out.there | apply Pick.cons | apply Pick.drop)))⟩
  case round =>
    obtain ⟨k, rfl, hk, hsC⟩ := hrel
    by_cases hlt : k < m
    · obtain ⟨x, hx⟩ : ∃ x, ls[k]? = some x := ⟨ls[k]'(by have := hln.out; omega), List.getElem?_eq_getElem _⟩
      obtain ⟨C, e, hv, hr⟩ := h4 k x hx
      obtain ⟨D, f, hv', hr'⟩ := g4 k x hx
      obtain ⟨ga, oa, rfl⟩ := h1.some_of hs (by omega)
      obtain ⟨gb, ob, rfl⟩ := g1.some_of hs (by omega)
      have ca := h1.elt hv
      have cb := g1.elt hv'
      have i0 : (0 : Int) ≤ (k : Int) := by omega
      have i1 : (k : Int) < (m : Int) := by omega
      have hwk : IntKind.i64.wrap ((k : Int) + 1) = (k : Int) + 1 := IntWalk.i64_in _ (by omega)
      clear hx hv hv' h4 g4
      refine wk_seq (fun K6 hK6 => ?_); refine wk_seq (fun K7 hK7 => ?_); refine wk_reg ?_; (iterate 3 (refine pl_take (v := ?_) rfl ?_ ?_; rotate_left; (· (go_simp; first | done | with_reducible rfl | rfl | omega | assumption | (simp; omega))); (try simp only [Act.put, aP, aZ, aS]))); refine pl_take (v := .bool true) rfl ?_ ?_; (· (go_simp; first | done | with_reducible rfl | rfl | omega | assumption | (simp; omega))); (try simp only [Act.put, aP, aZ, aS]); refine pl_done ?_; refine hK7.out _ _ ?_; (try clear hK7 K7); refine wp_cond_true rfl ?_; refine wp_skip ?_; refine hK6.out _ _ ?_; (try clear hK6 K6); refine wk_seq (fun K8 hK8 => ?_); refine wp_block ?_; refine wk_seq (fun K9 hK9 => ?_); refine rg_start rfl (by assumption) (fun wr6 hsr6 => ?_); refine rkT 0 (v := ?_) rfl (hy := ?_) (h := ?_); rotate_left; (· intro w hSw; (go_simp; first | done | with_reducible rfl | rfl | omega | assumption | (simp; omega))); (try simp only [Act.put, aP, aZ, aS]); refine rkT 1 (v := ?_) rfl (hy := ?_) (h := ?_); rotate_left; (· intro w hSw; (go_simp; first | done | with_reducible rfl | rfl | omega | assumption | (simp; omega))); (try simp only [Act.put, aP, aZ, aS]); refine rkT 2 (v := ?_) rfl (hy := ?_) (h := ?_); rotate_left; (· intro w hSw; (go_simp; first | done | with_reducible rfl | rfl | omega | assumption | (simp; omega))); (try simp only [Act.put, aP, aZ, aS]); refine rkT 3 (v := ?_) rfl (hy := ?_) (h := ?_); rotate_left; (· intro w hSw; ((with_reducible apply yl_load); assumption; rfl; (repeat (first | with_reducible assumption | ((with_reducible apply Cl.own); exact rfl) | ((with_reducible apply Cl.blkL); exact rfl) | with_reducible apply Cl.cons)); rfl)); (try simp only [Act.put, aP, aZ, aS]); refine rkT 4 (v := ?_) rfl (hy := ?_) (h := ?_); rotate_left; (· intro w hSw; (first | ((with_reducible apply yl_b2s); assumption; rfl; (repeat (first | with_reducible assumption | with_reducible exact Rd.own | with_reducible exact Rd.nil | with_reducible apply Rd.cons)); rfl) | (go_simp; first | done | with_reducible rfl | rfl | omega | assumption | (simp; omega)))); (try simp only [Act.put, aP, aZ, aS]); refine rkT 5 (v := ?_) rfl (hy := ?_) (h := ?_); rotate_left; (· intro w hSw; (go_simp; first | done | with_reducible rfl | rfl | omega | assumption | (simp; omega))); (try simp only [Act.put, aP, aZ, aS]); refine rkT 6 (v := ?_) rfl (hy := ?_) (h := ?_); rotate_left; (· intro w hSw; (go_simp; first | done | with_reducible rfl | rfl | omega | assumption | (simp; omega))); (try simp only [Act.put, aP, aZ, aS]); refine rkT 7 (v := ?_) rfl (hy := ?_) (h := ?_); rotate_left; (· intro w hSw; (go_simp; first | done | with_reducible rfl | rfl | omega | assumption | (simp; omega))); (try simp only [Act.put, aP, aZ, aS]); refine rkT 8 (v := ?_) rfl (hy := ?_) (h := ?_); rotate_left; (· intro w hSw; ((with_reducible apply yl_load); assumption; rfl; (repeat (first | with_reducible assumption | ((with_reducible apply Cl.own); exact rfl) | ((with_reducible apply Cl.blkL); exact rfl) | with_reducible apply Cl.cons)); rfl)); (try simp only [Act.put, aP, aZ, aS]); refine rkT 9 (v := ?_) rfl (hy := ?_) (h := ?_); rotate_left; (· intro w hSw; (first | ((with_reducible apply yl_b2s); assumption; rfl; (repeat (first | with_reducible assumption | with_reducible exact Rd.own | with_reducible exact Rd.nil | with_reducible apply Rd.cons)); rfl) | (go_simp; first | done | with_reducible rfl | rfl | omega | assumption | (simp; omega)))); (try simp only [Act.put, aP, aZ, aS]); refine rkT 10 (v := .bool false) rfl (hy := ?_) (h := ?_); (· intro w hSw; (go_simp; first | done | with_reducible rfl | rfl | omega | assumption | (simp; omega))); (try simp only [Act.put, aP, aZ, aS]); refine rg_done (by kernel_rfl) ?_; refine hK9.out _ _ ?_; (try clear hK9 K9); refine wp_cond_false rfl ?_; refine wp_skip ?_; refine hK8.out _ _ ?_; (try clear hK8 K8); refine wk_reg ?_; (iterate 3 (refine pl_take (v := ?_) rfl ?_ ?_; rotate_left; (· (go_simp; first | done | with_reducible rfl | rfl | omega | assumption | (simp; omega))); (try simp only [Act.put, aP, aZ, aS]))); refine pl_done ?_; (try dsimp only [Exit.inBlock, Exit.then])
      go_roundw
      case rel => exact ⟨k + 1, by go_num, by omega, (by assumption : Sat w0 _ _).pick (by (repeat (first | exact Pick.nil _ | exact Pick.tail _ | exact Out.here _ | apply Out.there | apply Pick.cons | apply Pick.drop)))⟩
      case measure => simp [intOf]; omega
    · obtain rfl : k = m := by omega
      clear h4 g4
      refine wk_seq (fun K6 hK6 => ?_); refine wk_seq (fun K7 hK7 => ?_); refine wk_reg ?_; (iterate 3 (refine pl_take (v := ?_) rfl ?_ ?_; rotate_left; (· (go_simp; first | done | with_reducible rfl | rfl | omega | assumption | (simp; omega))); (try simp only [Act.put, aP, aZ, aS]))); refine pl_take (v := .bool false) rfl ?_ ?_; (· (go_simp; first | done | with_reducible rfl | rfl | omega | assumption | (simp; omega))); (try simp only [Act.put, aP, aZ, aS]); refine pl_done ?_; refine hK7.out _ _ ?_; (try clear hK7 K7); refine wp_cond_false rfl ?_; refine wp_exit ?_; refine hK4.out _ _ ?_; (try clear hK4 K4); refine wk_seq (fun K11 hK11 => ?_); refine wk_reg ?_; refine pl_take (v := .bool true) rfl ?_ ?_; (· (go_simp; first | done | with_reducible rfl | rfl | omega | assumption | (simp; omega))); (try simp only [Act.put, aP, aZ, aS]); refine pl_done ?_; refine hK11.out _ _ ?_; (try clear hK11 K11); refine wp_ret ?_
      go_ret
      exact ⟨rfl, (by assumption : Sat w0 _ _).pick (by (repeat (first | exact Pick.nil _ | exact Pick.tail _ | exact Out.here _ | apply Out.there | apply Pick.cons | apply Pick.drop)))⟩

/-! ### What so many puts have made -/
def cutB (b : List UInt8) : List UInt8 := b.take 1024

structure Rds (i : Nat) (M : Mc) (ls : List (List UInt8)) : Prop where
  sp : M.sp = 1073741824
  ap : M.ap = i + 1
  st : M.st = 0
  l : M.l = (ls.take i).map cutB
  ss : ∃ s : Se, M.ss = [(1, s)] ∧ s.q = i ∧ 0 < s.t

theorem Rds.ok {i : Nat} {M : Mc} {ls : List (List UInt8)} (h : Rds i M ls) (hi : i ≤ 60) : M.Ok := by
  obtain ⟨s, h1, h2, h3⟩ := h.ss
  refine ⟨by rw [h.sp]; omega, by rw [h.ap]; omega, by rw [h.st]; omega, by rw [h.st, h.ap, h.l]; simp; omega, fun x hx => ?_⟩
  rw [h1] at hx
  rw [h.ap]
  simp only [List.mem_singleton] at hx
  subst hx
  simp only; omega

theorem Rds.start (ls : List (List UInt8)) : Rds 0 ⟨1073741824, 1, 0, [], [(1, ⟨0, 0, 1⟩)]⟩ ls := ⟨rfl, rfl, rfl, rfl, ⟨⟨0, 0, 1⟩, rfl, rfl, by simp⟩⟩

theorem Rds.expire {i : Nat} {M : Mc} {ls : List (List UInt8)} (h : Rds i M ls) {ix : Int} (hx : ix ≤ 1000) : M.expire ix = { M with ap := ix } := by
  obtain ⟨s, h1, h2, h3⟩ := h.ss
  unfold Mc.expire
  congr 1
  refine List.filter_eq_self.2 fun x hx => ?_
  rw [h1] at hx
  simp only [List.mem_singleton] at hx
  subst hx
  rw [h.sp]
  simp only [decide_eq_true_eq]; omega

end Go.Proofs.Ytdlimjcidblneaa
