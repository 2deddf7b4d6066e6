/-
  The disk: a choice (Crash's inner function).
-/
import Derived.Test.YtiofgdgmlnhekaaVdK
namespace Go.Proofs.Ytiofgdgmlnhekaa
open Go Go.RowKit Sl Go.Shelf Go.Maps
set_option maxHeartbeats 20000000
set_option maxRecDepth 8000

def Z8 (l : List Int) : List Value := l.map (Value.int .i64)
theorem Z8_at (l : List Int) (k : Nat) (x : Int) (h : l[k]? = some x) : (Z8 l)[k]? = some (.int .i64 x) := by simp [Z8, h]

/-- The choices that are left stand in box b. -/
abbrev cBox (b : Nat) (A : Option Addr) (m c : Nat) : HP := blk b (.cells #[.slice A m c] 33 (0, 0))

/-- What is known of them. -/
structure Cho (w0 : World) (M : List HP) (ch : List Int) (A : Option Addr) (m c : Nat) : Prop where
  len : m = ch.length
  cap : m ≤ c
  rd : Rd w0 M A m 1 (Z8 ch)
  i64 : ∀ x ∈ ch, -9223372036854775808 ≤ x ∧ x ≤ 9223372036854775807

theorem Cho.cons {w0 : World} {M : List HP} {p : HP} {ch : List Int} {A : Option Addr} {m c : Nat} (h : Cho w0 M ch A m c) : Cho w0 (p :: M) ch A m c := ⟨h.len, h.cap, h.rd.cons, h.i64⟩
theorem Cho.ent {w0 : World} {M M' : List HP} {ch : List Int} {A : Option Addr} {m c : Nat} (h : Cho w0 M ch A m c) (hp : ∀ w, Sat w0 w M' → Sat w0 w M) : Cho w0 M' ch A m c := ⟨h.len, h.cap, fun w hs => h.rd w (hp w hs), h.i64⟩

theorem pickN_le (ch : List Int) (n : Nat) : pickN ch n ≤ n := by
  unfold pickN
  cases ch with
  | nil => simp
  | cons c r =>
    simp only
    have h2 := Int.tmod_lt_of_pos (c.tmod ((n : Int) + 1) + (n : Int) + 1) (b := (n : Int) + 1) (by omega)
    omega

theorem pickN_cons (x : Int) (r : List Int) (n : Nat) : (pickN (x :: r) n : Int) = (x.tmod ((n : Int) + 1) + (n : Int) + 1).tmod ((n : Int) + 1) := by
  unfold pickN
  simp only
  have h1 : -((n : Int) + 1) < x.tmod ((n : Int) + 1) := by
    have h := Int.lt_tmod_of_pos x (b := (n : Int) + 1) (by omega)
    omega
  have h2 := Int.tmod_nonneg (a := x.tmod ((n : Int) + 1) + (n : Int) + 1) ((n : Int) + 1) (by omega)
  omega

theorem pick_spec {w0 w : World} {L M : List HP} {b n m c : Nat} {A : Option Addr} (ch : List Int) (hn : n ≤ 1099511627776) (hE : ∀ w, Sat w0 w M → Sat w0 w L) (hC : Cho w0 L ch A m c) (hs : Sat w0 w (cBox b A m c :: M)) :
    Calls Try.prog 32 #[.int .i64 (n : Int), .pointer (some ⟨b, 0, none⟩)] w (fun e w' => ∃ A' m' c', e = .returned (.int .i64 (pickN ch n : Int)) ∧ Cho w0 L ch.tail A' m' c' ∧ Sat w0 w' (cBox b A' m' c' :: M)) := by
  cases ch with
  | nil =>
    obtain rfl : m = 0 := hC.len
    have e : pickN [] n = 0 := rfl
    rw [e]
    go_enter Try.func32, Try.ntmps32
    refine wk_seq (fun K0 hK0 => ?_); refine wk_reg ?_; refine pl_take (v := ?_) rfl ?_ ?_; rotate_left; (· (go_simp; first | done | with_reducible rfl | rfl | omega | assumption | (simp; omega))); (try simp only [Act.put, aP, aZ, aS]); refine pl_done ?_; refine hK0.out _ _ ?_; (try clear hK0 K0); refine wk_seq (fun K1 hK1 => ?_); refine wk_seq (fun K2 hK2 => ?_); refine wk_reg ?_; (iterate 2 (refine pl_take (v := ?_) rfl ?_ ?_; rotate_left; (· (first | ((with_reducible apply yl_load); assumption; rfl; (repeat (first | with_reducible assumption | ((with_reducible apply Cl.own); exact rfl) | ((with_reducible apply Cl.blkL); exact rfl) | with_reducible apply Cl.cons)); rfl) | (go_simp; first | done | with_reducible rfl | rfl | omega | assumption | (simp; omega)))); (try simp only [Act.put, aP, aZ, aS]))); refine pl_take (v := .bool true) rfl ?_ ?_; (· (go_simp; first | done | with_reducible rfl | rfl | omega | assumption | (simp; omega))); (try simp only [Act.put, aP, aZ, aS]); refine pl_done ?_; refine hK2.out _ _ ?_; (try clear hK2 K2); refine wp_cond_true rfl ?_; refine wk_seq (fun K3 hK3 => ?_); refine wk_reg ?_; refine pl_take (v := ?_) rfl ?_ ?_; rotate_left; (· (go_simp; first | done | with_reducible rfl | rfl | omega | assumption | (simp; omega))); (try simp only [Act.put, aP, aZ, aS]); refine pl_done ?_; refine hK3.out _ _ ?_; (try clear hK3 K3); refine wp_ret ?_
    go_ret
    exact ⟨_, _, _, rfl, hC, (by assumption : Sat w0 _ _).pick (by (repeat (first | exact Pick.nil _ | exact Pick.tail _ | exact Out.here _ | apply Out.there | apply Pick.cons | apply Pick.drop)))⟩
  | cons x r =>
    have hm : m = r.length + 1 := hC.len
    have hcap := hC.cap
    have h64 := hC.i64 x (by simp)
    have hrd := hC.rd
    obtain ⟨g, o, rfl⟩ := hrd.some_of (hE _ hs.tail) (by omega)
    have c0 : Cl w0 M ⟨g, o, none⟩ (.int .i64 x) := fun w h => by have := hrd.elt (k := 0) (Z8_at (x :: r) 0 x rfl) w (hE w h); simpa using this
    have hwin := rd_win (c := c) (l := 1) (h := m) (by omega) (Nat.le_refl _) hcap hrd
    obtain ⟨A', hA'⟩ : ∃ A', (if c = 1 then some (⟨g, o, none⟩ : Addr) else (some (⟨g, o, none⟩ : Addr)).map (·.add (1 * 1))) = A' := ⟨_, rfl⟩
    rw [hA'] at hwin
    have hfin := hidI (show Cho w0 L r A' (m - 1) (c - 1) from ⟨by omega, by omega, by
      have e1 : ((Z8 (x :: r)).drop (1 * 1)).take ((m - 1) * 1) = Z8 r := by
        simp only [Nat.mul_one]
        rw [show m - 1 = r.length from by omega]
        simp [Z8, List.take_of_length_le]
      rw [e1] at hwin
      exact hwin, fun y hy => hC.i64 y (by simp [hy])⟩)
    have HA := hidI hA'
    have hp := pickN_cons x r n
    obtain ⟨K, hK⟩ : ∃ K, pickN (x :: r) n = K := ⟨_, rfl⟩
    rw [hK] at hp ⊢
    have hlo : -((n : Int) + 1) < x.tmod ((n : Int) + 1) := Int.lt_tmod_of_pos x (by omega)
    have hhi : x.tmod ((n : Int) + 1) < (n : Int) + 1 := Int.tmod_lt_of_pos x (by omega)
    obtain ⟨t, ht⟩ : ∃ t, x.tmod ((n : Int) + 1) = t := ⟨_, rfl⟩
    rw [ht] at hp hlo hhi
    have hw1 : IntKind.i64.wrap ((n : Int) + 1) = (n : Int) + 1 := IntWalk.i64_in _ (by omega)
    have hw2 : IntKind.i64.wrap (t + (n : Int)) = t + (n : Int) := IntWalk.i64_in _ (by omega)
    have hw3 : IntKind.i64.wrap (t + (n : Int) + 1) = t + (n : Int) + 1 := IntWalk.i64_in _ (by omega)
    have hne : ¬ ((n : Int) + 1 = 0) := by omega
    have i0 : (0 : Int) < (m : Int) := by omega
    have i1 : ¬ ((m : Int) = 0) := by omega
    have hm1 : 0 < m := by omega
    clear hC hrd hwin hA' hK hlo hhi hm hE
    simp only [List.tail_cons]
    have HP2 := hidI hp.symm
    clear hp
    go_enter Try.func32, Try.ntmps32
    refine wk_seq (fun K0 hK0 => ?_); refine wk_reg ?_; refine pl_take (v := ?_) rfl ?_ ?_; rotate_left; (· (go_simp; first | done | with_reducible rfl | rfl | omega | assumption | (simp; omega))); (try simp only [Act.put, aP, aZ, aS]); refine pl_done ?_; refine hK0.out _ _ ?_; (try clear hK0 K0); refine wk_seq (fun K1 hK1 => ?_); refine wk_seq (fun K2 hK2 => ?_); refine wk_reg ?_; (iterate 2 (refine pl_take (v := ?_) rfl ?_ ?_; rotate_left; (· (first | ((with_reducible apply yl_load); assumption; rfl; (repeat (first | with_reducible assumption | ((with_reducible apply Cl.own); exact rfl) | ((with_reducible apply Cl.blkL); exact rfl) | with_reducible apply Cl.cons)); rfl) | (go_simp; first | done | with_reducible rfl | rfl | omega | assumption | (simp; omega)))); (try simp only [Act.put, aP, aZ, aS]))); refine pl_take (v := .bool false) rfl ?_ ?_; (· (go_simp; first | done | with_reducible rfl | rfl | omega | assumption | (simp; omega))); (try simp only [Act.put, aP, aZ, aS]); refine pl_done ?_; refine hK2.out _ _ ?_; (try clear hK2 K2); refine wp_cond_false rfl ?_; refine wp_skip ?_; refine hK1.out _ _ ?_; (try clear hK1 K1); refine wk_seq (fun K4 hK4 => ?_); refine wk_reg ?_; (iterate 4 (refine pl_take (v := ?_) rfl ?_ ?_; rotate_left; (· (first | ((with_reducible apply yl_load); assumption; rfl; (repeat (first | with_reducible assumption | ((with_reducible apply Cl.own); exact rfl) | ((with_reducible apply Cl.blkL); exact rfl) | with_reducible apply Cl.cons)); rfl) | (go_simp; first | done | with_reducible rfl | rfl | omega | assumption | (simp; omega)))); (try simp only [Act.put, aP, aZ, aS]))); refine pl_done ?_; refine hK4.out _ _ ?_; (try clear hK4 K4); refine wk_seq (fun K5 hK5 => ?_); refine wk_reg ?_; refine pl_take (v := ?_) rfl ?_ ?_; rotate_left; (· ((with_reducible apply yl_load); assumption; rfl; (repeat (first | with_reducible assumption | ((with_reducible apply Cl.own); exact rfl) | ((with_reducible apply Cl.blkL); exact rfl) | with_reducible apply Cl.cons)); rfl)); (try simp only [Act.put, aP, aZ, aS]); refine pl_take (v := (.slice A' (m - 1) (c - 1))) rfl ?_ ?_; (· ((with_reducible apply yl_sliceLo (sz := 1) 1); rfl; rfl; rfl; omega; rw [HA.out])); (try simp only [Act.put, aP, aZ, aS]); refine pl_eff rfl (fun Kp hKp => ?_); (first | ((with_reducible apply st_store1); assumption; rfl; (go_simp; rfl); (repeat (first | with_reducible exact Out.here _ | apply Out.there)); rfl; rfl; simp; intro wr4_2 hsr4_2; (try simp only [aP] at hsr4_2); (try simp only [aS] at hsr4_2); (try simp only [aZ] at hsr4_2)) | ((with_reducible apply st_store_own); assumption; rfl; (go_simp; rfl); (repeat (first | with_reducible exact Out.here _ | apply Out.there)); rfl; rfl; omega; intro wr4_2 hsr4_2)); refine hKp.out _ _ ?_; clear hKp Kp; (try dsimp only [Act.put]); refine pl_done ?_; refine hK5.out _ _ ?_; (try clear hK5 K5); refine wk_seq (fun K6 hK6 => ?_); refine wk_reg ?_; (iterate 11 (refine pl_take (v := ?_) rfl ?_ ?_; rotate_left; (· (go_simp; first | done | with_reducible rfl | rfl | omega | assumption | (simp; omega))); (try simp only [Act.put, aP, aZ, aS]))); refine pl_done ?_; refine hK6.out _ _ ?_; (try clear hK6 K6); refine wp_ret ?_
    go_ret
    exact ⟨_, _, _, by rw [← HP2.out]; rfl, hfin.out, (by assumption : Sat w0 _ _).pick (by (repeat (first | exact Pick.nil _ | exact Pick.tail _ | exact Out.here _ | apply Out.there | apply Pick.cons | apply Pick.drop)))⟩
end Go.Proofs.Ytiofgdgmlnhekaa
