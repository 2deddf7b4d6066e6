/-
  The disk's names: may a name be?
-/
import Derived.Test.YtiofgdgmlnhekaaVd3
import Derived.Test.YtiofgdgmlnhekaaWk
import Derived.Test.YtiofgdgmlnhekaaTy
import Derived.Deep.LoopGhost
import Derived.Deep.DeepMust
namespace Go.Proofs.Ytiofgdgmlnhekaa
open Go Go.RowKit Sl Go.Shelf
set_option maxHeartbeats 20000000
set_option maxRecDepth 8000

/-- It has returned b, and nothing has turned. -/
def BackB (w0 : World) (L : List HP) (b : Bool) (e : Ending) (w' : World) : Prop := e = .returned (.bool b) ∧ Sat w0 w' L

theorem rune_spec {w0 w : World} {L : List HP} (r : Nat) (hs : Sat w0 w L) : Calls Try.prog 41 #[.int .i32 r] w (BackB w0 L (badR r)) := by
  by_cases h1 : r < 33
  · have e : badR r = true := by simp [badR, h1]
    rw [e]
    go_enter Try.func41, Try.ntmps41
    refine wk_seq (fun K0 hK0 => ?_); refine wk_reg ?_; refine pl_take (v := .bool false) rfl ?_ ?_; (· (go_simp; first | done | with_reducible rfl | rfl | omega | assumption | (simp; omega))); (try simp only [Act.put, aP, aZ, aS]); refine pl_done ?_; refine hK0.out _ _ ?_; (try clear hK0 K0); refine wk_seq (fun K1 hK1 => ?_); refine wk_reg ?_; refine pl_take (v := ?_) rfl ?_ ?_; rotate_left; (· (go_simp; first | done | with_reducible rfl | rfl | omega | assumption | (simp; omega))); (try simp only [Act.put, aP, aZ, aS]); (iterate 2 (refine pl_take (v := .bool true) rfl ?_ ?_; (· (go_simp; first | done | with_reducible rfl | rfl | omega | assumption | (simp; omega))); (try simp only [Act.put, aP, aZ, aS]))); (iterate 2 (refine pl_skip (by kernel_rfl) ?_; (try simp only [Act.put, aP, aZ, aS]))); (iterate 2 (refine pl_take (v := .bool true) rfl ?_ ?_; (· (go_simp; first | done | with_reducible rfl | rfl | omega | assumption | (simp; omega))); (try simp only [Act.put, aP, aZ, aS]))); refine pl_done ?_; refine hK1.out _ _ ?_; (try clear hK1 K1); refine wp_ret ?_
    go_ret
    exact ⟨rfl, (by assumption : Sat w0 _ _).pick (by (repeat (first | exact Pick.nil _ | exact Pick.tail _ | exact Out.here _ | apply Out.there | apply Pick.cons | apply Pick.drop)))⟩
  · by_cases h2 : 126 < r
    · have e : badR r = true := by simp [badR, h2]
      rw [e]
      go_enter Try.func41, Try.ntmps41
      refine wk_seq (fun K0 hK0 => ?_); refine wk_reg ?_; refine pl_take (v := .bool false) rfl ?_ ?_; (· (go_simp; first | done | with_reducible rfl | rfl | omega | assumption | (simp; omega))); (try simp only [Act.put, aP, aZ, aS]); refine pl_done ?_; refine hK0.out _ _ ?_; (try clear hK0 K0); refine wk_seq (fun K1 hK1 => ?_); refine wk_reg ?_; refine pl_take (v := ?_) rfl ?_ ?_; rotate_left; (· (go_simp; first | done | with_reducible rfl | rfl | omega | assumption | (simp; omega))); (try simp only [Act.put, aP, aZ, aS]); (iterate 2 (refine pl_take (v := .bool false) rfl ?_ ?_; (· (go_simp; first | done | with_reducible rfl | rfl | omega | assumption | (simp; omega))); (try simp only [Act.put, aP, aZ, aS]))); refine pl_take (v := ?_) (by kernel_rfl) ?_ ?_; rotate_left; (· (go_simp; first | done | with_reducible rfl | rfl | omega | assumption | (simp; omega))); (try simp only [Act.put, aP, aZ, aS]); refine pl_take (v := .bool true) (by kernel_rfl) ?_ ?_; (· (go_simp; first | done | with_reducible rfl | rfl | omega | assumption | (simp; omega))); (try simp only [Act.put, aP, aZ, aS]); (iterate 2 (refine pl_take (v := .bool true) rfl ?_ ?_; (· (go_simp; first | done | with_reducible rfl | rfl | omega | assumption | (simp; omega))); (try simp only [Act.put, aP, aZ, aS]))); refine pl_done ?_; refine hK1.out _ _ ?_; (try clear hK1 K1); refine wp_ret ?_
      go_ret
      exact ⟨rfl, (by assumption : Sat w0 _ _).pick (by (repeat (first | exact Pick.nil _ | exact Pick.tail _ | exact Out.here _ | apply Out.there | apply Pick.cons | apply Pick.drop)))⟩
    · have e : badR r = false := by simp [badR, h1, h2]
      rw [e]
      go_enter Try.func41, Try.ntmps41
      refine wk_seq (fun K0 hK0 => ?_); refine wk_reg ?_; refine pl_take (v := .bool false) rfl ?_ ?_; (· (go_simp; first | done | with_reducible rfl | rfl | omega | assumption | (simp; omega))); (try simp only [Act.put, aP, aZ, aS]); refine pl_done ?_; refine hK0.out _ _ ?_; (try clear hK0 K0); refine wk_seq (fun K1 hK1 => ?_); refine wk_reg ?_; refine pl_take (v := ?_) rfl ?_ ?_; rotate_left; (· (go_simp; first | done | with_reducible rfl | rfl | omega | assumption | (simp; omega))); (try simp only [Act.put, aP, aZ, aS]); (iterate 2 (refine pl_take (v := .bool false) rfl ?_ ?_; (· (go_simp; first | done | with_reducible rfl | rfl | omega | assumption | (simp; omega))); (try simp only [Act.put, aP, aZ, aS]))); refine pl_take (v := ?_) (by kernel_rfl) ?_ ?_; rotate_left; (· (go_simp; first | done | with_reducible rfl | rfl | omega | assumption | (simp; omega))); (try simp only [Act.put, aP, aZ, aS]); refine pl_take (v := .bool false) (by kernel_rfl) ?_ ?_; (· (go_simp; first | done | with_reducible rfl | rfl | omega | assumption | (simp; omega))); (try simp only [Act.put, aP, aZ, aS]); (iterate 2 (refine pl_take (v := .bool false) rfl ?_ ?_; (· (go_simp; first | done | with_reducible rfl | rfl | omega | assumption | (simp; omega))); (try simp only [Act.put, aP, aZ, aS]))); refine pl_done ?_; refine hK1.out _ _ ?_; (try clear hK1 K1); refine wp_ret ?_
      go_ret
      exact ⟨rfl, (by assumption : Sat w0 _ _).pick (by (repeat (first | exact Pick.nil _ | exact Pick.tail _ | exact Out.here _ | apply Out.there | apply Pick.cons | apply Pick.drop)))⟩

theorem indexFunc_spec {w0 w : World} {L : List HP} (s : ByteArray) (hs : Sat w0 w L) :
    Calls Try.prog 51 #[.string s, .func (.func 41) #[] #[], .bool true] w (fun e w' => e = .returned (.int .i64 (Lib.idxFunc badR true s)) ∧ Sat w0 w' L) := by
  go_enter Try.func51, Try.ntmps51
  refine wk_seq (fun K0 hK0 => ?_); refine wk_reg ?_; refine pl_take (v := ?_) rfl ?_ ?_; rotate_left; (· (go_simp; first | done | with_reducible rfl | rfl | omega | assumption | (simp; omega))); (try simp only [Act.put, aP, aZ, aS]); refine pl_done ?_; refine hK0.out _ _ ?_; (try clear hK0 K0); refine wk_seq (fun K1 hK1 => ?_); refine wk_seq (fun K2 hK2 => ?_); refine wk_reg ?_; refine pl_take (v := ?_) rfl ?_ ?_; rotate_left; (· (go_simp; first | done | with_reducible rfl | rfl | omega | assumption | (simp; omega))); (try simp only [Act.put, aP, aZ, aS]); refine pl_eff rfl (fun Kp hKp => ?_); ((with_reducible apply st_rangeStr); assumption; rfl; intro b10 w10 hs10); refine hKp.out _ _ ?_; clear hKp Kp; (try simp only [Act.put, aP, aZ, aS]); refine pl_done ?_; refine hK2.out _ _ ?_; (try clear hK2 K2); refine wp_block ?_
  -- at a loop
  go_loopg [] s.size (fun gf wx => ∃ pos : Nat, Sat w0 wx (blk b10 (.stringIter s pos) :: L) ∧ Lib.idxFuncFrom badR true s gf pos = Lib.idxFunc badR true s ∧ s.size ≤ pos + gf)
  case atStart => exact ⟨0, by assumption, rfl, by omega⟩
  case round =>
    obtain ⟨pos, hsC, hleft, hfu⟩ := hrel
    by_cases hps : pos < s.size
    · obtain ⟨g', rfl⟩ : ∃ g', gk = g' + 1 := ⟨gk - 1, by omega⟩
      have hwd := Lib.width_pos s pos
      have hnx := fun (dst : Option Tmp) (ty : TypeId) (ps : String) (aft : Array Edge) (gd : Option (Nat × Bool)) (it : Operand) (a : Act) (w : World) (Kq : Act → World → Prop) (Qq : Exit → Act → World → Prop) (hs : Sat w0 w (blk b10 (.stringIter s pos) :: L)) (hi : a.eval it = .pointer (some ⟨b10, 0, none⟩)) (h : _) => st_nextStr_more (P := Try.prog) (K := Kq) (Q := Qq) (dst := dst) (ty := ty) (pos := ps) (aft := aft) (gd := gd) hs hi (.here _) hps h
      obtain ⟨R, hR⟩ : ∃ R, (Utf8.decode s pos).1 = R := ⟨_, rfl⟩
      obtain ⟨W, hW⟩ : ∃ W, (Utf8.decode s pos).2 = W := ⟨_, rfl⟩
      simp only [Lib.idxFuncFrom, hps, if_true, hR, hW] at hleft
      rw [hR, hW] at hnx
      rw [hW] at hwd
      have hru := fun (w : World) (hs : Sat w0 w (blk b10 (.stringIter s (pos + W)) :: L)) => rune_spec R hs
      obtain ⟨Bd, hBd⟩ : ∃ Bd, badR R = Bd := ⟨_, rfl⟩
      rw [hBd] at hru hleft
      clear hR hW hBd
      cases Bd
      · simp only [Bool.false_eq_true, if_false] at hleft
        have HL := hidI hleft
        clear hleft
        refine wk_seq (fun K3 hK3 => ?_); refine wk_reg ?_; refine pl_eff rfl (fun Kp hKp => ?_); (refine hnx _ _ _ _ _ _ _ _ _ _ (by assumption) rfl (fun w11 hs11 => ?_)); refine hKp.out _ _ ?_; clear hKp Kp; (try simp only [Act.put, aP, aZ, aS]); refine pl_take (v := .bool true) rfl ?_ ?_; (· (go_simp; first | done | with_reducible rfl | rfl | omega | assumption | (simp; omega))); (try simp only [Act.put, aP, aZ, aS]); refine pl_done ?_; refine hK3.out _ _ ?_; (try clear hK3 K3); refine wk_seq (fun K4 hK4 => ?_); refine wp_cond_true rfl ?_; refine wp_skip ?_; refine hK4.out _ _ ?_; (try clear hK4 K4); refine wp_block ?_; refine wk_seq (fun K5 hK5 => ?_); refine wk_reg ?_; (iterate 4 (refine pl_take (v := ?_) rfl ?_ ?_; rotate_left; (· (go_simp; first | done | with_reducible rfl | rfl | omega | assumption | (simp; omega))); (try simp only [Act.put, aP, aZ, aS]))); refine pl_done ?_; refine hK5.out _ _ ?_; (try clear hK5 K5); refine wk_seq (fun K6 hK6 => ?_); refine wk_reg ?_; (iterate 2 (refine pl_take (v := ?_) rfl ?_ ?_; rotate_left; (· (go_simp; first | done | with_reducible rfl | rfl | omega | assumption | (simp; omega))); (try simp only [Act.put, aP, aZ, aS]))); refine pl_eff rfl (fun Kp hKp => ?_); go_simp; (refine (hru _ (by assumption)).mono ?_; rintro e17 w17 ⟨rfl, hs17⟩); (try go_wp2_with fail); refine hKp.out _ _ ?_; clear hKp Kp; (try simp only [Act.put, aP, aZ, aS]); refine pl_take (v := ?_) rfl ?_ ?_; rotate_left; (· (go_simp; first | done | with_reducible rfl | rfl | omega | assumption | (simp; omega))); (try simp only [Act.put, aP, aZ, aS]); refine pl_take (v := .bool false) rfl ?_ ?_; (· (go_simp; first | done | with_reducible rfl | rfl | omega | assumption | (simp; omega))); (try simp only [Act.put, aP, aZ, aS]); refine pl_done ?_; refine hK6.out _ _ ?_; (try clear hK6 K6); refine wp_cond_false rfl ?_; refine wp_skip ?_; (try dsimp only [Exit.inBlock, Exit.then])
        refine (by assumption : ∀ a' w', Handed _ _ a' w' → _) _ _ ?_
        go_roundg g'
        case measure => omega
        case rel => exact ⟨pos + W, (by assumption : Sat w0 _ _).pick (by (repeat (first | exact Pick.nil _ | exact Pick.tail _ | exact Out.here _ | apply Out.there | apply Pick.cons | apply Pick.drop))), HL.out, by omega⟩
      · simp only [if_true] at hleft
        have HL := hidI hleft
        clear hleft
        refine wk_seq (fun K3 hK3 => ?_); refine wk_reg ?_; refine pl_eff rfl (fun Kp hKp => ?_); (refine hnx _ _ _ _ _ _ _ _ _ _ (by assumption) rfl (fun w11 hs11 => ?_)); refine hKp.out _ _ ?_; clear hKp Kp; (try simp only [Act.put, aP, aZ, aS]); refine pl_take (v := .bool true) rfl ?_ ?_; (· (go_simp; first | done | with_reducible rfl | rfl | omega | assumption | (simp; omega))); (try simp only [Act.put, aP, aZ, aS]); refine pl_done ?_; refine hK3.out _ _ ?_; (try clear hK3 K3); refine wk_seq (fun K4 hK4 => ?_); refine wp_cond_true rfl ?_; refine wp_skip ?_; refine hK4.out _ _ ?_; (try clear hK4 K4); refine wp_block ?_; refine wk_seq (fun K5 hK5 => ?_); refine wk_reg ?_; (iterate 4 (refine pl_take (v := ?_) rfl ?_ ?_; rotate_left; (· (go_simp; first | done | with_reducible rfl | rfl | omega | assumption | (simp; omega))); (try simp only [Act.put, aP, aZ, aS]))); refine pl_done ?_; refine hK5.out _ _ ?_; (try clear hK5 K5); refine wk_seq (fun K6 hK6 => ?_); refine wk_reg ?_; (iterate 2 (refine pl_take (v := ?_) rfl ?_ ?_; rotate_left; (· (go_simp; first | done | with_reducible rfl | rfl | omega | assumption | (simp; omega))); (try simp only [Act.put, aP, aZ, aS]))); refine pl_eff rfl (fun Kp hKp => ?_); go_simp; (refine (hru _ (by assumption)).mono ?_; rintro e17 w17 ⟨rfl, hs17⟩); (try go_wp2_with fail); refine hKp.out _ _ ?_; clear hKp Kp; (try simp only [Act.put, aP, aZ, aS]); refine pl_take (v := ?_) rfl ?_ ?_; rotate_left; (· (go_simp; first | done | with_reducible rfl | rfl | omega | assumption | (simp; omega))); (try simp only [Act.put, aP, aZ, aS]); refine pl_take (v := .bool true) rfl ?_ ?_; (· (go_simp; first | done | with_reducible rfl | rfl | omega | assumption | (simp; omega))); (try simp only [Act.put, aP, aZ, aS]); refine pl_done ?_; refine hK6.out _ _ ?_; (try clear hK6 K6); refine wp_cond_true rfl ?_; refine wk_seq (fun K7 hK7 => ?_); refine wk_reg ?_; (iterate 2 (refine pl_take (v := ?_) rfl ?_ ?_; rotate_left; (· (go_simp; first | done | with_reducible rfl | rfl | omega | assumption | (simp; omega))); (try simp only [Act.put, aP, aZ, aS]))); refine pl_done ?_; refine hK7.out _ _ ?_; (try clear hK7 K7); refine wp_ret ?_
        go_ret
        exact ⟨by rw [← HL.out]; rfl, (by assumption : Sat w0 _ _).pick (by (repeat (first | exact Pick.nil _ | exact Pick.tail _ | exact Out.here _ | apply Out.there | apply Pick.cons | apply Pick.drop)))⟩
    · rw [Lib.idxFuncFrom_end badR true s gk pos hps] at hleft
      have HL := hidI hleft
      clear hleft
      refine wk_seq (fun K3 hK3 => ?_); refine wk_reg ?_; refine pl_eff rfl (fun Kp hKp => ?_); ((with_reducible apply st_nextStr_done); assumption; rfl; exact .here _; exact hps); refine hKp.out _ _ ?_; clear hKp Kp; (try simp only [Act.put, aP, aZ, aS]); refine pl_take (v := .bool false) rfl ?_ ?_; (· (go_simp; first | done | with_reducible rfl | rfl | omega | assumption | (simp; omega))); (try simp only [Act.put, aP, aZ, aS]); refine pl_done ?_; refine hK3.out _ _ ?_; (try clear hK3 K3); refine wk_seq (fun K4 hK4 => ?_); refine wp_cond_false rfl ?_; refine wp_exit ?_; refine hK1.out _ _ ?_; (try clear hK1 K1); refine wk_seq (fun K8 hK8 => ?_); refine wk_reg ?_; refine pl_take (v := ?_) rfl ?_ ?_; rotate_left; (· (go_simp; first | done | with_reducible rfl | rfl | omega | assumption | (simp; omega))); (try simp only [Act.put, aP, aZ, aS]); refine pl_done ?_; refine hK8.out _ _ ?_; (try clear hK8 K8); refine wp_ret ?_
      go_ret
      exact ⟨by rw [← HL.out]; rfl, (by assumption : Sat w0 _ _).pick (by (repeat (first | exact Pick.nil _ | exact Pick.tail _ | exact Out.here _ | apply Out.there | apply Pick.cons | apply Pick.drop)))⟩

theorem indexF_spec {w0 w : World} {L : List HP} (s : ByteArray) (hs : Sat w0 w L) :
    Calls Try.prog 47 #[.string s, .func (.func 41) #[] #[]] w (fun e w' => e = .returned (.int .i64 (Lib.idxFunc badR true s)) ∧ Sat w0 w' L) := by
  go_enter Try.func47, Try.ntmps47
  refine wk_seq (fun K0 hK0 => ?_); refine wk_reg ?_; refine pl_take (v := ?_) rfl ?_ ?_; rotate_left; (· (go_simp; first | done | with_reducible rfl | rfl | omega | assumption | (simp; omega))); (try simp only [Act.put, aP, aZ, aS]); refine pl_done ?_; refine hK0.out _ _ ?_; (try clear hK0 K0); refine wk_seq (fun K1 hK1 => ?_); refine wk_reg ?_; (iterate 2 (refine pl_take (v := ?_) rfl ?_ ?_; rotate_left; (· (go_simp; first | done | with_reducible rfl | rfl | omega | assumption | (simp; omega))); (try simp only [Act.put, aP, aZ, aS]))); refine pl_eff rfl (fun Kp hKp => ?_); go_simp; (refine (indexFunc_spec s (by assumption)).mono ?_; rintro e7 w7 ⟨rfl, hs7⟩); (try go_wp2_with fail); refine hKp.out _ _ ?_; clear hKp Kp; (try simp only [Act.put, aP, aZ, aS]); refine pl_take (v := ?_) rfl ?_ ?_; rotate_left; (· (go_simp; first | done | with_reducible rfl | rfl | omega | assumption | (simp; omega))); (try simp only [Act.put, aP, aZ, aS]); refine pl_done ?_; refine hK1.out _ _ ?_; (try clear hK1 K1); refine wp_ret ?_
  go_ret
  exact ⟨rfl, (by assumption : Sat w0 _ _).pick (by (repeat (first | exact Pick.nil _ | exact Pick.tail _ | exact Out.here _ | apply Out.there | apply Pick.cons | apply Pick.drop)))⟩

theorem containsF_spec {w0 w : World} {L : List HP} (l : List UInt8) (hs : Sat w0 w L) :
    Calls Try.prog 40 #[sV l, .func (.func 41) #[] #[]] w (BackB w0 L (l.any badB)) := by
  have hi := fun (w : World) (hs : Sat w0 w L) => indexF_spec ⟨l.toArray⟩ hs
  have hd := idx_bad0 l
  unfold sV
  obtain ⟨I, hI⟩ : ∃ I, Lib.idxFunc badR true ⟨l.toArray⟩ = I := ⟨_, rfl⟩
  rw [hI] at hi hd
  rw [← hd]
  clear hd hI
  go_enter Try.func40, Try.ntmps40
  refine wk_seq (fun K0 hK0 => ?_); refine wk_reg ?_; refine pl_take (v := .bool false) rfl ?_ ?_; (· (go_simp; first | done | with_reducible rfl | rfl | omega | assumption | (simp; omega))); (try simp only [Act.put, aP, aZ, aS]); refine pl_done ?_; refine hK0.out _ _ ?_; (try clear hK0 K0); refine wk_seq (fun K1 hK1 => ?_); refine wk_reg ?_; (iterate 2 (refine pl_take (v := ?_) rfl ?_ ?_; rotate_left; (· (go_simp; first | done | with_reducible rfl | rfl | omega | assumption | (simp; omega))); (try simp only [Act.put, aP, aZ, aS]))); refine pl_eff rfl (fun Kp hKp => ?_); go_simp; (refine (hi _ (by assumption)).mono ?_; rintro e7 w7 ⟨rfl, hs7⟩); (try go_wp2_with fail); refine hKp.out _ _ ?_; clear hKp Kp; (try simp only [Act.put, aP, aZ, aS]); (iterate 2 (refine pl_take (v := ?_) rfl ?_ ?_; rotate_left; (· (go_simp; first | done | with_reducible rfl | rfl | omega | assumption | (simp; omega))); (try simp only [Act.put, aP, aZ, aS]))); refine pl_done ?_; refine hK1.out _ _ ?_; (try clear hK1 K1); refine wp_ret ?_
  go_ret
  exact ⟨rfl, (by assumption : Sat w0 _ _).pick (by (repeat (first | exact Pick.nil _ | exact Pick.tail _ | exact Out.here _ | apply Out.there | apply Pick.cons | apply Pick.drop)))⟩

def badNm (l : List UInt8) : Bool := !(nmOk l)
theorem name1_spec {w0 w : World} {L : List HP} (l : List UInt8) (hl : l.length ≤ 1099511627776) (hs : Sat w0 w L) :
    Calls Try.prog 39 #[sV l] w (BackB w0 L (badNm l)) := by
  have hsz : (⟨l.toArray⟩ : ByteArray).size = l.length := by simp [ByteArray.size]
  have hc := fun (w : World) (hs : Sat w0 w L) => containsF_spec l hs
  unfold sV at hc ⊢
  obtain ⟨s, hss⟩ : ∃ s : ByteArray, ⟨l.toArray⟩ = s := ⟨_, rfl⟩
  rw [hss] at hc hsz ⊢
  obtain ⟨n, hn⟩ : ∃ n, s.size = n := ⟨_, rfl⟩
  by_cases h1 : l.length < 1
  · have e : badNm l = true := by simp [badNm, nmOk, h1]
    rw [e]
    go_enter Try.func39, Try.ntmps39
    refine wk_seq (fun K0 hK0 => ?_); refine wk_reg ?_; refine pl_take (v := .bool false) rfl ?_ ?_; (· (go_simp; first | done | with_reducible rfl | rfl | omega | assumption | (simp; omega))); (try simp only [Act.put, aP, aZ, aS]); refine pl_done ?_; refine hK0.out _ _ ?_; (try clear hK0 K0); refine wk_seq (fun K1 hK1 => ?_); refine wk_reg ?_; (iterate 2 (refine pl_take (v := ?_) rfl ?_ ?_; rotate_left; (· (go_simp; first | done | with_reducible rfl | rfl | omega | assumption | (simp; omega))); (try simp only [Act.put, aP, aZ, aS]))); (iterate 2 (refine pl_take (v := .bool true) rfl ?_ ?_; (· (go_simp; first | done | with_reducible rfl | rfl | omega | assumption | (simp; omega))); (try simp only [Act.put, aP, aZ, aS]))); (iterate 3 (refine pl_skip (by kernel_rfl) ?_; (try simp only [Act.put, aP, aZ, aS]))); (iterate 2 (refine pl_take (v := .bool true) rfl ?_ ?_; (· (go_simp; first | done | with_reducible rfl | rfl | omega | assumption | (simp; omega))); (try simp only [Act.put, aP, aZ, aS]))); (iterate 2 (refine pl_skip (by kernel_rfl) ?_; (try simp only [Act.put, aP, aZ, aS]))); (iterate 2 (refine pl_take (v := .bool true) rfl ?_ ?_; (· (go_simp; first | done | with_reducible rfl | rfl | omega | assumption | (simp; omega))); (try simp only [Act.put, aP, aZ, aS]))); refine pl_done ?_; refine hK1.out _ _ ?_; (try clear hK1 K1); refine wp_ret ?_
    go_ret
    exact ⟨rfl, (by assumption : Sat w0 _ _).pick (by (repeat (first | exact Pick.nil _ | exact Pick.tail _ | exact Out.here _ | apply Out.there | apply Pick.cons | apply Pick.drop)))⟩
  · by_cases h2 : 64 < l.length
    · have e : badNm l = true := by simp [badNm, nmOk, Nat.not_le.2 h2]
      rw [e]
      go_enter Try.func39, Try.ntmps39
      refine wk_seq (fun K0 hK0 => ?_); refine wk_reg ?_; refine pl_take (v := .bool false) rfl ?_ ?_; (· (go_simp; first | done | with_reducible rfl | rfl | omega | assumption | (simp; omega))); (try simp only [Act.put, aP, aZ, aS]); refine pl_done ?_; refine hK0.out _ _ ?_; (try clear hK0 K0); refine wk_seq (fun K1 hK1 => ?_); refine wk_reg ?_; (iterate 2 (refine pl_take (v := ?_) rfl ?_ ?_; rotate_left; (· (go_simp; first | done | with_reducible rfl | rfl | omega | assumption | (simp; omega))); (try simp only [Act.put, aP, aZ, aS]))); (iterate 2 (refine pl_take (v := .bool false) rfl ?_ ?_; (· (go_simp; first | done | with_reducible rfl | rfl | omega | assumption | (simp; omega))); (try simp only [Act.put, aP, aZ, aS]))); (iterate 2 (refine pl_take (v := ?_) (by kernel_rfl) ?_ ?_; rotate_left; (· (go_simp; first | done | with_reducible rfl | rfl | omega | assumption | (simp; omega))); (try simp only [Act.put, aP, aZ, aS]))); refine pl_take (v := .bool true) (by kernel_rfl) ?_ ?_; (· (go_simp; first | done | with_reducible rfl | rfl | omega | assumption | (simp; omega))); (try simp only [Act.put, aP, aZ, aS]); (iterate 2 (refine pl_take (v := .bool true) rfl ?_ ?_; (· (go_simp; first | done | with_reducible rfl | rfl | omega | assumption | (simp; omega))); (try simp only [Act.put, aP, aZ, aS]))); (iterate 2 (refine pl_skip (by kernel_rfl) ?_; (try simp only [Act.put, aP, aZ, aS]))); (iterate 2 (refine pl_take (v := .bool true) rfl ?_ ?_; (· (go_simp; first | done | with_reducible rfl | rfl | omega | assumption | (simp; omega))); (try simp only [Act.put, aP, aZ, aS]))); refine pl_done ?_; refine hK1.out _ _ ?_; (try clear hK1 K1); refine wp_ret ?_
      go_ret
      exact ⟨rfl, (by assumption : Sat w0 _ _).pick (by (repeat (first | exact Pick.nil _ | exact Pick.tail _ | exact Out.here _ | apply Out.there | apply Pick.cons | apply Pick.drop)))⟩
    · have e : badNm l = l.any badB := by
        have h3 : 1 ≤ l.length := by omega
        have h4 : l.length ≤ 64 := by omega
        simp [badNm, nmOk, h3, h4]
      rw [e]
      clear e
      go_enter Try.func39, Try.ntmps39
      refine wk_seq (fun K0 hK0 => ?_); refine wk_reg ?_; refine pl_take (v := .bool false) rfl ?_ ?_; (· (go_simp; first | done | with_reducible rfl | rfl | omega | assumption | (simp; omega))); (try simp only [Act.put, aP, aZ, aS]); refine pl_done ?_; refine hK0.out _ _ ?_; (try clear hK0 K0); refine wk_seq (fun K1 hK1 => ?_); refine wk_reg ?_; (iterate 2 (refine pl_take (v := ?_) rfl ?_ ?_; rotate_left; (· (go_simp; first | done | with_reducible rfl | rfl | omega | assumption | (simp; omega))); (try simp only [Act.put, aP, aZ, aS]))); (iterate 2 (refine pl_take (v := .bool false) rfl ?_ ?_; (· (go_simp; first | done | with_reducible rfl | rfl | omega | assumption | (simp; omega))); (try simp only [Act.put, aP, aZ, aS]))); (iterate 2 (refine pl_take (v := ?_) (by kernel_rfl) ?_ ?_; rotate_left; (· (go_simp; first | done | with_reducible rfl | rfl | omega | assumption | (simp; omega))); (try simp only [Act.put, aP, aZ, aS]))); refine pl_take (v := .bool false) (by kernel_rfl) ?_ ?_; (· (go_simp; first | done | with_reducible rfl | rfl | omega | assumption | (simp; omega))); (try simp only [Act.put, aP, aZ, aS]); (iterate 2 (refine pl_take (v := .bool false) rfl ?_ ?_; (· (go_simp; first | done | with_reducible rfl | rfl | omega | assumption | (simp; omega))); (try simp only [Act.put, aP, aZ, aS]))); refine pl_take (v := ?_) (by kernel_rfl) ?_ ?_; rotate_left; (· (go_simp; first | done | with_reducible rfl | rfl | omega | assumption | (simp; omega))); (try simp only [Act.put, aP, aZ, aS]); refine pl_eff (by kernel_rfl) (fun Kp hKp => ?_); go_simp; (refine (hc _ (by assumption)).mono ?_; rintro e13 w13 ⟨rfl, hs13⟩); (try go_wp2_with fail); refine hKp.out _ _ ?_; clear hKp Kp; (try simp only [Act.put, aP, aZ, aS]); (iterate 2 (refine pl_take (v := ?_) rfl ?_ ?_; rotate_left; (· (go_simp; first | done | with_reducible rfl | rfl | omega | assumption | (simp; omega))); (try simp only [Act.put, aP, aZ, aS]))); refine pl_done ?_; refine hK1.out _ _ ?_; (try clear hK1 K1); refine wp_ret ?_
      go_ret
      exact ⟨rfl, (by assumption : Sat w0 _ _).pick (by (repeat (first | exact Pick.nil _ | exact Pick.tail _ | exact Out.here _ | apply Out.there | apply Pick.cons | apply Pick.drop)))⟩

theorem S8_at (l : List (List UInt8)) (k : Nat) (x : List UInt8) (h : l[k]? = some x) : (N8 l)[k]? = some (sV x) := by simp [N8, h]

theorem idxNames_spec {w0 w : World} {L : List HP} {A : Option Addr} {c n : Nat} (l : List (List UInt8)) (hn : n = l.length) (hl : n ≤ 1048576) (hsz : ∀ x ∈ l, x.length ≤ 1099511627776) (hs : Sat w0 w L) (hR : Rd w0 L A n 1 (N8 l)) :
    Calls Try.prog 46 #[.slice A n c, .func (.func 39) #[] #[]] w (fun e w' => ∃ i : Int, e = .returned (.int .i64 i) ∧ decide (0 ≤ i) = l.any badNm ∧ Sat w0 w' L) := by
  obtain ⟨T, hT⟩ : ∃ T, l.any badNm = T := ⟨_, rfl⟩
  rw [hT]
  have HT := hidI (show ∀ k, k ≤ n → (∀ j, j < k → ∀ x, l[j]? = some x → badNm x = false) → T = (l.drop k).any badNm from fun k hk h => by
    rw [← hT]
    have h1 : (l.take k).any badNm = false := by
      rw [List.any_eq_false]
      intro x hx
      obtain ⟨j, hj, hjk⟩ := List.mem_take_iff_getElem.1 hx
      have := h j (by omega) x (by rw [← hjk]; exact List.getElem?_eq_getElem _)
      simp [this]
    conv => lhs; rw [← List.take_append_drop k l]
    rw [List.any_append, h1, Bool.false_or])
  clear hT
  have Hn := hidI hn
  clear hn
  go_enter Try.func46, Try.ntmps46
  refine wk_seq (fun K0 hK0 => ?_); refine wk_reg ?_; refine pl_take (v := ?_) rfl ?_ ?_; rotate_left; (· (go_simp; first | done | with_reducible rfl | rfl | omega | assumption | (simp; omega))); (try simp only [Act.put, aP, aZ, aS]); refine pl_done ?_; refine hK0.out _ _ ?_; (try clear hK0 K0); refine wk_seq (fun K1 hK1 => ?_); refine wk_seq (fun K2 hK2 => ?_); refine wk_reg ?_; (iterate 3 (refine pl_take (v := ?_) rfl ?_ ?_; rotate_left; (· (go_simp; first | done | with_reducible rfl | rfl | omega | assumption | (simp; omega))); (try simp only [Act.put, aP, aZ, aS]))); refine pl_done ?_; refine hK2.out _ _ ?_; (try clear hK2 K2); refine wp_block ?_
  -- at a loop
  go_loopw [8] (fun s8 wr => ∃ (k : Nat), s8 = .int .i64 k ∧ k ≤ n ∧ Sat w0 wr L ∧ ∀ j, j < k → ∀ x, l[j]? = some x → badNm x = false) (fun s8 _ => n - (iOf s8).toNat)
  case atStart => exact ⟨0, rfl, Nat.zero_le _, by assumption, fun j hj => absurd hj (Nat.not_lt_zero _)⟩
  case round =>
    obtain ⟨k, rfl, hk, hsC, hall⟩ := hrel
    by_cases hlt : k < n
    · obtain ⟨x, hx⟩ : ∃ x, l[k]? = some x := ⟨l[k]'(by have := Hn.out; omega), List.getElem?_eq_getElem _⟩
      obtain ⟨ga, oa, rfl⟩ := hR.some_of hs (by omega)
      have ca := hR.elt (S8_at l k x hx)
      have hx64 := hsz x (List.mem_of_getElem? hx)
      have i0 : (0 : Int) ≤ (k : Int) := by omega
      have i1 : (k : Int) < (n : Int) := by omega
      have hwk : IntKind.i64.wrap ((k : Int) + 1) = (k : Int) + 1 := IntWalk.i64_in _ (by omega)
      have hnm := fun (w : World) (hs : Sat w0 w L) => name1_spec x hx64 hs
      obtain ⟨v, hv⟩ : ∃ v, sV x = v := ⟨_, rfl⟩
      rw [hv] at hnm ca
      clear hv
      obtain ⟨Bd, hBd⟩ : ∃ Bd, badNm x = Bd := ⟨_, rfl⟩
      rw [hBd] at hnm
      cases Bd
      · have HX := hidI hx
        have HB := hidI hBd
        clear hx hBd
        refine wk_seq (fun K3 hK3 => ?_); refine wk_reg ?_; refine pl_take (v := .bool true) rfl ?_ ?_; (· (go_simp; first | done | with_reducible rfl | rfl | omega | assumption | (simp; omega))); (try simp only [Act.put, aP, aZ, aS]); refine pl_done ?_; refine hK3.out _ _ ?_; (try clear hK3 K3); refine wk_seq (fun K4 hK4 => ?_); refine wp_cond_true rfl ?_; refine wp_skip ?_; refine hK4.out _ _ ?_; (try clear hK4 K4); refine wk_seq (fun K5 hK5 => ?_); refine wp_block ?_; refine wk_seq (fun K6 hK6 => ?_); refine wk_reg ?_; (iterate 2 (refine pl_take (v := ?_) rfl ?_ ?_; rotate_left; (· (go_simp; first | done | with_reducible rfl | rfl | omega | assumption | (simp; omega))); (try simp only [Act.put, aP, aZ, aS]))); refine pl_done ?_; refine hK6.out _ _ ?_; (try clear hK6 K6); refine wk_seq (fun K7 hK7 => ?_); refine wk_reg ?_; (iterate 5 (refine pl_take (v := ?_) rfl ?_ ?_; rotate_left; (· (first | ((with_reducible apply yl_load); assumption; rfl; (repeat (first | with_reducible assumption | ((with_reducible apply Cl.own); exact rfl) | ((with_reducible apply Cl.blkL); exact rfl) | with_reducible apply Cl.cons)); rfl) | (go_simp; first | done | with_reducible rfl | rfl | omega | assumption | (simp; omega)))); (try simp only [Act.put, aP, aZ, aS]))); refine pl_eff rfl (fun Kp hKp => ?_); go_simp; (refine (hnm _ (by assumption)).mono ?_; rintro e16 w16 ⟨rfl, hs16⟩); (try go_wp2_with fail); refine hKp.out _ _ ?_; clear hKp Kp; (try simp only [Act.put, aP, aZ, aS]); refine pl_done ?_; refine hK7.out _ _ ?_; (try clear hK7 K7); refine wp_cond_false rfl ?_; refine wp_skip ?_; refine hK5.out _ _ ?_; (try clear hK5 K5); refine wk_reg ?_; (iterate 2 (refine pl_take (v := ?_) rfl ?_ ?_; rotate_left; (· (go_simp; first | done | with_reducible rfl | rfl | omega | assumption | (simp; omega))); (try simp only [Act.put, aP, aZ, aS]))); refine pl_done ?_; (try dsimp only [Exit.inBlock, Exit.then])
        go_roundw
        case rel => refine ⟨k + 1, by go_num, by omega, (by assumption : Sat w0 _ _).pick (by (repeat (first | exact Pick.nil _ | exact Pick.tail _ | exact Out.here _ | apply Out.there | apply Pick.cons | apply Pick.drop))), fun j hj y hy => ?_⟩; (rcases Nat.lt_or_eq_of_le (Nat.le_of_lt_succ hj) with h | rfl; · exact hall j h y hy); (have := HX.out; rw [this] at hy; cases hy; exact HB.out)
        case measure => simp [iOf]; omega
      · have HX := hidI (show T = true by
          rw [HT.out k (by omega) hall, List.any_eq_true]
          exact ⟨x, List.mem_of_getElem? (i := 0) (by rw [List.getElem?_drop]; exact hx), hBd⟩)
        clear hx hBd
        refine wk_seq (fun K3 hK3 => ?_); refine wk_reg ?_; refine pl_take (v := .bool true) rfl ?_ ?_; (· (go_simp; first | done | with_reducible rfl | rfl | omega | assumption | (simp; omega))); (try simp only [Act.put, aP, aZ, aS]); refine pl_done ?_; refine hK3.out _ _ ?_; (try clear hK3 K3); refine wk_seq (fun K4 hK4 => ?_); refine wp_cond_true rfl ?_; refine wp_skip ?_; refine hK4.out _ _ ?_; (try clear hK4 K4); refine wk_seq (fun K5 hK5 => ?_); refine wp_block ?_; refine wk_seq (fun K6 hK6 => ?_); refine wk_reg ?_; (iterate 2 (refine pl_take (v := ?_) rfl ?_ ?_; rotate_left; (· (go_simp; first | done | with_reducible rfl | rfl | omega | assumption | (simp; omega))); (try simp only [Act.put, aP, aZ, aS]))); refine pl_done ?_; refine hK6.out _ _ ?_; (try clear hK6 K6); refine wk_seq (fun K7 hK7 => ?_); refine wk_reg ?_; (iterate 5 (refine pl_take (v := ?_) rfl ?_ ?_; rotate_left; (· (first | ((with_reducible apply yl_load); assumption; rfl; (repeat (first | with_reducible assumption | ((with_reducible apply Cl.own); exact rfl) | ((with_reducible apply Cl.blkL); exact rfl) | with_reducible apply Cl.cons)); rfl) | (go_simp; first | done | with_reducible rfl | rfl | omega | assumption | (simp; omega)))); (try simp only [Act.put, aP, aZ, aS]))); refine pl_eff rfl (fun Kp hKp => ?_); go_simp; (refine (hnm _ (by assumption)).mono ?_; rintro e16 w16 ⟨rfl, hs16⟩); (try go_wp2_with fail); refine hKp.out _ _ ?_; clear hKp Kp; (try simp only [Act.put, aP, aZ, aS]); refine pl_done ?_; refine hK7.out _ _ ?_; (try clear hK7 K7); refine wp_cond_true rfl ?_; refine wk_seq (fun K8 hK8 => ?_); refine wk_reg ?_; (iterate 2 (refine pl_take (v := ?_) rfl ?_ ?_; rotate_left; (· (go_simp; first | done | with_reducible rfl | rfl | omega | assumption | (simp; omega))); (try simp only [Act.put, aP, aZ, aS]))); refine pl_done ?_; refine hK8.out _ _ ?_; (try clear hK8 K8); refine wp_ret ?_
        go_ret
        exact ⟨_, rfl, by rw [HX.out]; simp, (by assumption : Sat w0 _ _).pick (by (repeat (first | exact Pick.nil _ | exact Pick.tail _ | exact Out.here _ | apply Out.there | apply Pick.cons | apply Pick.drop)))⟩
    · obtain rfl : k = n := by omega
      have HX := hidI (show T = false by
        rw [HT.out k (by omega) hall, List.drop_eq_nil_of_le (by have := Hn.out; omega)]; rfl)
      refine wk_seq (fun K3 hK3 => ?_); refine wk_reg ?_; refine pl_take (v := .bool false) rfl ?_ ?_; (· (go_simp; first | done | with_reducible rfl | rfl | omega | assumption | (simp; omega))); (try simp only [Act.put, aP, aZ, aS]); refine pl_done ?_; refine hK3.out _ _ ?_; (try clear hK3 K3); refine wk_seq (fun K4 hK4 => ?_); refine wp_cond_false rfl ?_; refine wp_exit ?_; refine hK1.out _ _ ?_; (try clear hK1 K1); refine wk_seq (fun K9 hK9 => ?_); refine wk_reg ?_; refine pl_take (v := ?_) rfl ?_ ?_; rotate_left; (· (go_simp; first | done | with_reducible rfl | rfl | omega | assumption | (simp; omega))); (try simp only [Act.put, aP, aZ, aS]); refine pl_done ?_; refine hK9.out _ _ ?_; (try clear hK9 K9); refine wp_ret ?_
      go_ret
      exact ⟨_, rfl, by rw [HX.out]; rfl, (by assumption : Sat w0 _ _).pick (by (repeat (first | exact Pick.nil _ | exact Pick.tail _ | exact Out.here _ | apply Out.there | apply Pick.cons | apply Pick.drop)))⟩

theorem anyBad_spec {w0 w : World} {L : List HP} {A : Option Addr} {c n : Nat} (l : List (List UInt8)) (hn : n = l.length) (hl : n ≤ 1048576) (hsz : ∀ x ∈ l, x.length ≤ 1099511627776) (hs : Sat w0 w L) (hR : Rd w0 L A n 1 (N8 l)) :
    Calls Try.prog 38 #[.slice A n c, .func (.func 39) #[] #[]] w (BackB w0 L (l.any badNm)) := by
  have hi := fun (w : World) (hs : Sat w0 w L) => idxNames_spec (c := c) l hn hl hsz hs hR
  obtain ⟨T, hT⟩ : ∃ T, l.any badNm = T := ⟨_, rfl⟩
  rw [hT] at hi ⊢
  clear hT hn
  go_enter Try.func38, Try.ntmps38
  refine wk_seq (fun K0 hK0 => ?_); refine wk_reg ?_; refine pl_take (v := .bool false) rfl ?_ ?_; (· (go_simp; first | done | with_reducible rfl | rfl | omega | assumption | (simp; omega))); (try simp only [Act.put, aP, aZ, aS]); refine pl_done ?_; refine hK0.out _ _ ?_; (try clear hK0 K0); refine wk_seq (fun K1 hK1 => ?_); refine wk_reg ?_; (iterate 2 (refine pl_take (v := ?_) rfl ?_ ?_; rotate_left; (· (go_simp; first | done | with_reducible rfl | rfl | omega | assumption | (simp; omega))); (try simp only [Act.put, aP, aZ, aS]))); refine pl_eff rfl (fun Kp hKp => ?_); go_simp; (refine (hi _ (by assumption)).mono ?_; rintro e7 w7 ⟨i7, rfl, hi7, hs7⟩); (try go_wp2_with fail); refine hKp.out _ _ ?_; clear hKp Kp; (try simp only [Act.put, aP, aZ, aS]); (iterate 2 (refine pl_take (v := ?_) rfl ?_ ?_; rotate_left; (· (go_simp; first | done | with_reducible rfl | rfl | omega | assumption | (simp; omega))); (try simp only [Act.put, aP, aZ, aS]))); refine pl_done ?_; refine hK1.out _ _ ?_; (try clear hK1 K1); refine wp_ret ?_
  go_ret
  exact ⟨by rw [← hi7]; rfl, (by assumption : Sat w0 _ _).pick (by (repeat (first | exact Pick.nil _ | exact Pick.tail _ | exact Out.here _ | apply Out.there | apply Pick.cons | apply Pick.drop)))⟩

/-- Of no disk: false. -/
theorem may_nil {w0 w : World} {L : List HP} (v : Value) (hs : Sat w0 w L) : Calls Try.prog 24 #[.pointer none, v] w (BackB w0 L false) := by
  go_enter Try.func24, Try.ntmps24
  refine wk_seq (fun K0 hK0 => ?_); refine wk_reg ?_; refine pl_take (v := .bool false) rfl ?_ ?_; (· (go_simp; first | done | with_reducible rfl | rfl | omega | assumption | (simp; omega))); (try simp only [Act.put, aP, aZ, aS]); refine pl_done ?_; refine hK0.out _ _ ?_; (try clear hK0 K0); refine wk_seq (fun K1 hK1 => ?_); refine wk_reg ?_; refine pl_take (v := ?_) rfl ?_ ?_; rotate_left; (· (go_simp; first | done | with_reducible rfl | rfl | omega | assumption | (simp; omega))); (try simp only [Act.put, aP, aZ, aS]); (iterate 2 (refine pl_take (v := .bool false) rfl ?_ ?_; (· (go_simp; first | done | with_reducible rfl | rfl | omega | assumption | (simp; omega))); (try simp only [Act.put, aP, aZ, aS]))); (iterate 5 (refine pl_skip (by kernel_rfl) ?_; (try simp only [Act.put, aP, aZ, aS]))); (iterate 2 (refine pl_take (v := .bool false) rfl ?_ ?_; (· (go_simp; first | done | with_reducible rfl | rfl | omega | assumption | (simp; omega))); (try simp only [Act.put, aP, aZ, aS]))); (iterate 3 (refine pl_skip (by kernel_rfl) ?_; (try simp only [Act.put, aP, aZ, aS]))); (iterate 2 (refine pl_take (v := .bool false) rfl ?_ ?_; (· (go_simp; first | done | with_reducible rfl | rfl | omega | assumption | (simp; omega))); (try simp only [Act.put, aP, aZ, aS]))); refine pl_done ?_; refine hK1.out _ _ ?_; (try clear hK1 K1); refine wp_ret ?_
  go_ret
  exact ⟨rfl, (by assumption : Sat w0 _ _).pick (by (repeat (first | exact Pick.nil _ | exact Pick.tail _ | exact Out.here _ | apply Out.there | apply Pick.cons | apply Pick.drop)))⟩

/-- Of a disk that nobody made: false. -/
theorem may_none {w0 w : World} {L : List HP} {p : Nat} (v : Value) (hs : Sat w0 w L) (hc : Cl w0 L ⟨p, 3, none⟩ (.map none)) : Calls Try.prog 24 #[.pointer (some ⟨p, 0, none⟩), v] w (BackB w0 L false) := by
  go_enter Try.func24, Try.ntmps24
  refine wk_seq (fun K0 hK0 => ?_); refine wk_reg ?_; refine pl_take (v := .bool false) rfl ?_ ?_; (· (go_simp; first | done | with_reducible rfl | rfl | omega | assumption | (simp; omega))); (try simp only [Act.put, aP, aZ, aS]); refine pl_done ?_; refine hK0.out _ _ ?_; (try clear hK0 K0); refine wk_seq (fun K1 hK1 => ?_); refine wk_reg ?_; refine pl_take (v := ?_) rfl ?_ ?_; rotate_left; (· (go_simp; first | done | with_reducible rfl | rfl | omega | assumption | (simp; omega))); (try simp only [Act.put, aP, aZ, aS]); (iterate 2 (refine pl_take (v := .bool true) rfl ?_ ?_; (· (go_simp; first | done | with_reducible rfl | rfl | omega | assumption | (simp; omega))); (try simp only [Act.put, aP, aZ, aS]))); (iterate 4 (refine pl_take (v := ?_) (by kernel_rfl) ?_ ?_; rotate_left; (· (first | ((with_reducible apply yl_load); assumption; rfl; (repeat (first | with_reducible assumption | ((with_reducible apply Cl.own); exact rfl) | ((with_reducible apply Cl.blkL); exact rfl) | with_reducible apply Cl.cons)); rfl) | (go_simp; first | done | with_reducible rfl | rfl | omega | assumption | (simp; omega)))); (try simp only [Act.put, aP, aZ, aS]))); refine pl_take (v := .bool false) (by kernel_rfl) ?_ ?_; (· (go_simp; first | done | with_reducible rfl | rfl | omega | assumption | (simp; omega))); (try simp only [Act.put, aP, aZ, aS]); (iterate 2 (refine pl_take (v := .bool false) rfl ?_ ?_; (· (go_simp; first | done | with_reducible rfl | rfl | omega | assumption | (simp; omega))); (try simp only [Act.put, aP, aZ, aS]))); (iterate 3 (refine pl_skip (by kernel_rfl) ?_; (try simp only [Act.put, aP, aZ, aS]))); (iterate 2 (refine pl_take (v := .bool false) rfl ?_ ?_; (· (go_simp; first | done | with_reducible rfl | rfl | omega | assumption | (simp; omega))); (try simp only [Act.put, aP, aZ, aS]))); refine pl_done ?_; refine hK1.out _ _ ?_; (try clear hK1 K1); refine wp_ret ?_
  go_ret
  exact ⟨rfl, (by assumption : Sat w0 _ _).pick (by (repeat (first | exact Pick.nil _ | exact Pick.tail _ | exact Out.here _ | apply Out.there | apply Pick.cons | apply Pick.drop)))⟩

theorem may_spec {w0 w : World} {L : List HP} {p b : Nat} {A : Option Addr} {c n : Nat} (l : List (List UInt8)) (hn : n = l.length) (hl : n ≤ 1048576) (hsz : ∀ x ∈ l, x.length ≤ 1099511627776) (hs : Sat w0 w L) (hc : Cl w0 L ⟨p, 3, none⟩ (.map (some b))) (hR : Rd w0 L A n 1 (N8 l)) :
    Calls Try.prog 24 #[.pointer (some ⟨p, 0, none⟩), .slice A n c] w (BackB w0 L (l.all nmOk)) := by
  have hi := fun (w : World) (hs : Sat w0 w L) => anyBad_spec (c := c) l hn hl hsz hs hR
  have e : l.all nmOk = !(l.any badNm) := by
    rw [List.all_eq_not_any_not]
    rfl
  rw [e]
  obtain ⟨T, hT⟩ : ∃ T, l.any badNm = T := ⟨_, rfl⟩
  rw [hT] at hi ⊢
  clear hT hn e
  go_enter Try.func24, Try.ntmps24
  refine wk_seq (fun K0 hK0 => ?_); refine wk_reg ?_; refine pl_take (v := .bool false) rfl ?_ ?_; (· (go_simp; first | done | with_reducible rfl | rfl | omega | assumption | (simp; omega))); (try simp only [Act.put, aP, aZ, aS]); refine pl_done ?_; refine hK0.out _ _ ?_; (try clear hK0 K0); refine wk_seq (fun K1 hK1 => ?_); refine wk_reg ?_; refine pl_take (v := ?_) rfl ?_ ?_; rotate_left; (· (go_simp; first | done | with_reducible rfl | rfl | omega | assumption | (simp; omega))); (try simp only [Act.put, aP, aZ, aS]); (iterate 2 (refine pl_take (v := .bool true) rfl ?_ ?_; (· (go_simp; first | done | with_reducible rfl | rfl | omega | assumption | (simp; omega))); (try simp only [Act.put, aP, aZ, aS]))); (iterate 4 (refine pl_take (v := ?_) (by kernel_rfl) ?_ ?_; rotate_left; (· (first | ((with_reducible apply yl_load); assumption; rfl; (repeat (first | with_reducible assumption | ((with_reducible apply Cl.own); exact rfl) | ((with_reducible apply Cl.blkL); exact rfl) | with_reducible apply Cl.cons)); rfl) | (go_simp; first | done | with_reducible rfl | rfl | omega | assumption | (simp; omega)))); (try simp only [Act.put, aP, aZ, aS]))); refine pl_take (v := .bool true) (by kernel_rfl) ?_ ?_; (· (go_simp; first | done | with_reducible rfl | rfl | omega | assumption | (simp; omega))); (try simp only [Act.put, aP, aZ, aS]); (iterate 2 (refine pl_take (v := .bool true) rfl ?_ ?_; (· (go_simp; first | done | with_reducible rfl | rfl | omega | assumption | (simp; omega))); (try simp only [Act.put, aP, aZ, aS]))); refine pl_take (v := ?_) (by kernel_rfl) ?_ ?_; rotate_left; (· (go_simp; first | done | with_reducible rfl | rfl | omega | assumption | (simp; omega))); (try simp only [Act.put, aP, aZ, aS]); refine pl_eff (by kernel_rfl) (fun Kp hKp => ?_); go_simp; (refine (hi _ (by assumption)).mono ?_; rintro e16 w16 ⟨rfl, hs16⟩); (try go_wp2_with fail); refine hKp.out _ _ ?_; clear hKp Kp; (try simp only [Act.put, aP, aZ, aS]); refine pl_take (v := ?_) (by kernel_rfl) ?_ ?_; rotate_left; (· (go_simp; first | done | with_reducible rfl | rfl | omega | assumption | (simp; omega))); (try simp only [Act.put, aP, aZ, aS]); (iterate 2 (refine pl_take (v := ?_) rfl ?_ ?_; rotate_left; (· (go_simp; first | done | with_reducible rfl | rfl | omega | assumption | (simp; omega))); (try simp only [Act.put, aP, aZ, aS]))); refine pl_done ?_; refine hK1.out _ _ ?_; (try clear hK1 K1); refine wp_ret ?_
  go_ret
  exact ⟨rfl, (by assumption : Sat w0 _ _).pick (by (repeat (first | exact Pick.nil _ | exact Pick.tail _ | exact Out.here _ | apply Out.there | apply Pick.cons | apply Pick.drop)))⟩

theorem may_no {w0 w : World} {L : List HP} {p b : Nat} (hs : Sat w0 w L) (hc : Cl w0 L ⟨p, 3, none⟩ (.map (some b))) :
    Calls Try.prog 24 #[.pointer (some ⟨p, 0, none⟩), .slice none 0 0] w (BackB w0 L true) :=
  may_spec [] rfl (by omega) (by simp) hs hc Rd.nil
end Go.Proofs.Ytiofgdgmlnhekaa
