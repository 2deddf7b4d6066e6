/-
  Commands of the machine: of bytes.
-/
import Derived.Test.YtdlimjcidblneaaMc1
import Derived.Test.YtdlimjcidblneaaEnt2
namespace Go.Proofs.Ytdlimjcidblneaa
open Go Go.RowKit Sl Go.Shelf
set_option maxHeartbeats 20000000
set_option maxRecDepth 8000

theorem results_tmp4 {fn : Func} {t u v x : Tmp} (h : fn.results = #[.tmp t, .tmp u, .tmp v, .tmp x]) (tmps : Array Value) (P : Program) (w : World) :
    (results fn tmps).run P w = .ok (.tuple #[tmps.getD t undef, tmps.getD u undef, tmps.getD v undef, tmps.getD x undef]) w := by
  simp [results, h]

structure Cmd where
  k : Int
  x : Int
  y : Int
  d : List UInt8

/-- What bytes order. -/
def cmd (b : List UInt8) : Cmd :=
  let n1 := rdNumber 0 b
  if n1.1 = 2 then
    let n2 := rdNumber n1.2.1 n1.2.2
    let n3 := rdNumber n2.2.1 n2.2.2
    let n4 := rdBytes n3.2.1 n3.2.2
    ⟨if rdEnd n4.2.1 n4.2.2 ≠ 0 then 0 else if okNum n2.1 = false ∨ okNum n3.1 = false ∨ 1024 < n4.1.length then 0 else 2, n2.1, n3.1, n4.1⟩
  else if n1.1 = 3 then
    let n2 := rdNumber n1.2.1 n1.2.2
    ⟨if rdEnd n2.2.1 n2.2.2 ≠ 0 then 0 else if 1099511627776 ≤ n2.1 then 0 else 3, n2.1, 0, []⟩
  else ⟨if rdEnd n1.2.1 n1.2.2 ≠ 0 then 0 else if 3 < n1.1 then 0 else n1.1, 0, 0, []⟩

theorem cmd_open : cmd cOpen = ⟨1, 0, 0, []⟩ := by
  have := rdNumber_num 1 (by omega) []
  unfold cmd cOpen
  rw [List.append_nil] at this
  simp only [this]
  simp [rdEnd]

theorem cmd_trim {t : Int} (h : 0 ≤ t ∧ t < 1099511627776) : cmd (cTrim t) = ⟨3, t, 0, []⟩ := by
  have h1 := rdNumber_num 3 (by omega) (num t.toNat)
  have h2 := rdNumber_num t.toNat (by omega) []
  rw [List.append_nil] at h2
  unfold cmd cTrim
  simp only [h1, h2]
  rw [if_neg (show ¬ ((3 : Nat) : Int) = 2 by decide), if_pos (show ((3 : Nat) : Int) = 3 from rfl)]
  have e : ((t.toNat : Nat) : Int) = t := Int.toNat_of_nonneg h.1
  simp [rdEnd, e]; omega

theorem cmd_put {s q : Int} {d : List UInt8} (hs : okNum s = true) (hq : okNum q = true) (hd : d.length ≤ 1024) : cmd (cPut s q d) = ⟨2, s, q, d⟩ := by
  simp only [okNum, decide_eq_true_eq] at hs hq
  have h1 := rdNumber_num 2 (by omega) (num s.toNat ++ num q.toNat ++ (num d.length ++ d))
  have h2 := rdNumber_num s.toNat (by omega) (num q.toNat ++ (num d.length ++ d))
  have h3 := rdNumber_num q.toNat (by omega) (num d.length ++ d)
  have h4 := rdBytes_text d (by omega) []
  rw [List.append_nil] at h4
  unfold cmd cPut
  have e1 : ((s.toNat : Nat) : Int) = s := Int.toNat_of_nonneg (by omega)
  have e2 : ((q.toNat : Nat) : Int) = q := Int.toNat_of_nonneg (by omega)
  rw [show num 2 ++ num s.toNat ++ num q.toNat ++ (num d.length ++ d) = num 2 ++ (num s.toNat ++ num q.toNat ++ (num d.length ++ d)) from by simp, h1]
  simp only
  rw [if_pos (show ((2 : Nat) : Int) = 2 from rfl), show num s.toNat ++ num q.toNat ++ (num d.length ++ d) = num s.toNat ++ (num q.toNat ++ (num d.length ++ d)) from by simp, h2]
  simp only
  rw [h3]
  simp only
  rw [h4]
  simp [rdEnd, okNum, e1, e2]
  omega

/-- It has returned a command; its bytes lie in memory of their own. -/
def RetCmd (w0 : World) (L : List HP) (c : Cmd) (e : Ending) (w' : World) : Prop := ∃ (n dc : Nat) (D : Option Addr), Hid (n = c.d.length) ∧ e = .returned (.tuple #[.int .i64 c.k, .int .i64 c.x, .int .i64 c.y, .slice D n dc]) ∧ Sat w0 w' (own 5 1 D dc n (B8 c.d) :: L)


theorem command_spec {w0 w : World} {L : List HP} {A : Option Addr} {c : Nat} (b : List UInt8) (hl : b.length ≤ 4294967296) (hs : Sat w0 w L) (hR : Rd w0 L A b.length 1 (B8 b)) :
    Calls Try.prog 38 #[.slice A b.length c] w (RetCmd w0 L (cmd b)) := by
  obtain ⟨⟨k, e1, r1⟩, h1⟩ : ∃ z, rdNumber 0 b = z := ⟨_, rfl⟩
  obtain ⟨hk0, _, hr1, hk1⟩ := rdNumber_ok h1
  have hN1 := fun (w : World) (L' : List HP) (buf : HP) (p : Nat) (hs : Sat w0 w (Rd1 buf p 0 b :: buf :: L')) => number_read 0 b hl hs
  rw [h1] at hN1
  have hE1 := fun (w : World) (L' : List HP) (buf : HP) (p : Nat) (hs : Sat w0 w (Rd1 buf p e1 r1 :: L')) => end_spec hs
  obtain ⟨C, hC⟩ : ∃ C, cmd b = C := ⟨_, rfl⟩
  have hC1 : C = if k = 2 then
      let n2 := rdNumber e1 r1
      let n3 := rdNumber n2.2.1 n2.2.2
      let n4 := rdBytes n3.2.1 n3.2.2
      ⟨if rdEnd n4.2.1 n4.2.2 ≠ 0 then 0 else if okNum n2.1 = false ∨ okNum n3.1 = false ∨ 1024 < n4.1.length then 0 else 2, n2.1, n3.1, n4.1⟩
    else if k = 3 then
      let n2 := rdNumber e1 r1
      ⟨if rdEnd n2.2.1 n2.2.2 ≠ 0 then 0 else if 1099511627776 ≤ n2.1 then 0 else 3, n2.1, 0, []⟩
    else ⟨if rdEnd e1 r1 ≠ 0 then 0 else if 3 < k then 0 else k, 0, 0, []⟩ := by rw [← hC, cmd, h1]
  rw [hC]
  clear hC h1
  have hnil : ∀ {w : World}, Sat w0 w L → Sat w0 w (own 5 1 none 0 0 (B8 []) :: L) := fun hs => hs.own_nil 5 1
  by_cases k2 : k = 2
  · subst k2
    rw [if_pos rfl] at hC1
    obtain ⟨⟨x, e2, r2⟩, h2⟩ : ∃ z, rdNumber e1 r1 = z := ⟨_, rfl⟩
    obtain ⟨⟨y, e3, r3⟩, h3⟩ : ∃ z, rdNumber e2 r2 = z := ⟨_, rfl⟩
    obtain ⟨⟨d, e4, r4⟩, h4⟩ : ∃ z, rdBytes e3 r3 = z := ⟨_, rfl⟩
    obtain ⟨_, _, hr2, _⟩ := rdNumber_ok h2
    obtain ⟨_, _, hr3, _⟩ := rdNumber_ok h3
    obtain ⟨hr4, hdl⟩ := rdBytes_len h4
    have hN2 := fun (w : World) (L' : List HP) (buf : HP) (p : Nat) (hs : Sat w0 w (Rd1 buf p e1 r1 :: buf :: L')) => number_read e1 r1 (by omega) hs
    have hN3 := fun (w : World) (L' : List HP) (buf : HP) (p : Nat) (hs : Sat w0 w (Rd1 buf p e2 r2 :: buf :: L')) => number_read e2 r2 (by omega) hs
    have hN4 := fun (w : World) (L' : List HP) (buf : HP) (p : Nat) (hs : Sat w0 w (Rd1 buf p e3 r3 :: buf :: L')) => bytes_read e3 r3 (by omega) hs
    have hE4 := fun (w : World) (L' : List HP) (buf : HP) (p : Nat) (hs : Sat w0 w (Rd1 buf p e4 r4 :: L')) => end_spec hs
    have hox := fun (w : World) (L' : List HP) (hs : Sat w0 w L') => numM_spec x hs
    have hoy := fun (w : World) (L' : List HP) (hs : Sat w0 w L') => numM_spec y hs
    rw [h2] at hN2
    rw [h3] at hN3
    rw [h4] at hN4
    simp only [h2, h3, h4] at hC1
    obtain ⟨ox, hx⟩ : ∃ o, okNum x = o := ⟨_, rfl⟩
    obtain ⟨oy, hy⟩ : ∃ o, okNum y = o := ⟨_, rfl⟩
    obtain ⟨en, he⟩ : ∃ o, rdEnd e4 r4 = o := ⟨_, rfl⟩
    rw [hx] at hox hC1
    rw [hy] at hoy hC1
    rw [he] at hE4 hC1
    have HC := Hid.mk' hC1
    clear hC1 h2 h3 h4 hx hy he hE1
    have hfin : ∀ kd : Int, (kd = if en ≠ 0 then 0 else if ox = false ∨ oy = false ∨ 1024 < d.length then 0 else 2) → ∀ (w : World) (D : Option Addr) (dc : Nat), Sat w0 w (own 5 1 D dc d.length (B8 d) :: L) → RetCmd w0 L C (.returned (.tuple #[.int .i64 kd, .int .i64 x, .int .i64 y, .slice D d.length dc])) w := fun kd hkd w D dc hs => by
      have := HC.out
      rw [← hkd] at this
      subst this
      exact ⟨_, _, _, rfl, rfl, hs⟩
    clear HC
    cases ox with
    | false =>
      go_enter Try.func38, Try.ntmps38
      refine wk_seq (fun K0 hK0 => ?_)
      refine wk_reg ?_
      iterate 4 (refine pl_take (v := ?_) rfl ?_ ?_; rotate_left; (· (go_simp; first | done | with_reducible rfl | rfl | omega | assumption | (simp; omega))); (try simp only [Act.put, aP, aZ, aS]))
      refine pl_done ?_
      refine hK0.out _ _ ?_
      (try clear hK0 K0)
      refine wk_seq (fun K1 hK1 => ?_)
      refine wk_reg ?_
      refine pl_take (v := ?_) rfl ?_ ?_
      rotate_left
      · (go_simp; first | done | with_reducible rfl | rfl | omega | assumption | (simp; omega))
      (try simp only [Act.put, aP, aZ, aS])
      refine pl_eff rfl (fun Kp hKp => ?_)
      go_simp
      (refine (new_spec b hl (by assumption) (by (repeat (first | with_reducible assumption | with_reducible exact Rd.own | with_reducible exact Rd.nil | with_reducible apply Rd.cons)))).mono ?_; rintro e8 w8 ⟨p8, buf, rfl, hs8⟩)
      (try go_wp2_with fail)
      refine hKp.out _ _ ?_
      clear hKp Kp
      (try simp only [Act.put, aP, aZ, aS])
      refine pl_take (v := ?_) rfl ?_ ?_
      rotate_left
      · (go_simp; first | done | with_reducible rfl | rfl | omega | assumption | (simp; omega))
      (try simp only [Act.put, aP, aZ, aS])
      refine pl_done ?_
      refine hK1.out _ _ ?_
      (try clear hK1 K1)
      refine wk_seq (fun K2 hK2 => ?_)
      refine wk_reg ?_
      refine pl_take (v := ?_) rfl ?_ ?_
      rotate_left
      · (go_simp; first | done | with_reducible rfl | rfl | omega | assumption | (simp; omega))
      (try simp only [Act.put, aP, aZ, aS])
      refine pl_eff rfl (fun Kp hKp => ?_)
      go_simp
      (refine (hN1 _ _ _ _ ((by assumption : Sat w0 _ _).pick (by (repeat (first | exact Pick.nil _ | exact Pick.tail _ | exact Out.here _ | apply Out.there | apply Pick.cons | apply Pick.drop))))).mono ?_; rintro e10 w10 ⟨rfl, hs10⟩; simp only at hs10 ⊢)
      (try go_wp2_with fail)
      refine hKp.out _ _ ?_
      clear hKp Kp
      (try simp only [Act.put, aP, aZ, aS])
      refine pl_take (v := ?_) rfl ?_ ?_
      rotate_left
      · (go_simp; first | done | with_reducible rfl | rfl | omega | assumption | (simp; omega))
      (try simp only [Act.put, aP, aZ, aS])
      refine pl_done ?_
      refine hK2.out _ _ ?_
      (try clear hK2 K2)
      refine wk_seq (fun K3 hK3 => ?_)
      refine wk_seq (fun K4 hK4 => ?_)
      refine wk_reg ?_
      refine pl_take (v := ?_) rfl ?_ ?_
      rotate_left
      · (go_simp; first | done | with_reducible rfl | rfl | omega | assumption | (simp; omega))
      (try simp only [Act.put, aP, aZ, aS])
      refine pl_done ?_
      refine hK4.out _ _ ?_
      (try clear hK4 K4)
      refine wp_block ?_
      refine wk_seq (fun K5 hK5 => ?_)
      refine wp_block ?_
      refine wk_seq (fun K6 hK6 => ?_)
      refine wp_block ?_
      refine wk_seq (fun K7 hK7 => ?_)
      refine wp_block ?_
      refine wk_seq (fun K8 hK8 => ?_)
      refine wk_seq (fun K9 hK9 => ?_)
      refine wk_seq (fun K10 hK10 => ?_)
      refine wk_reg ?_
      iterate 2 (refine pl_take (v := .bool true) rfl ?_ ?_; (· (go_simp; first | done | with_reducible rfl | rfl | omega | assumption | (simp; omega))); (try simp only [Act.put, aP, aZ, aS]))
      refine pl_done ?_
      refine hK10.out _ _ ?_
      (try clear hK10 K10)
      refine wp_cond_true rfl ?_
      refine wp_exit ?_
      refine hK7.out _ _ ?_
      (try clear hK7 K7)
      refine wk_seq (fun K12 hK12 => ?_)
      refine wk_seq (fun K13 hK13 => ?_)
      refine wk_reg ?_
      refine pl_take (v := ?_) rfl ?_ ?_
      rotate_left
      · (go_simp; first | done | with_reducible rfl | rfl | omega | assumption | (simp; omega))
      (try simp only [Act.put, aP, aZ, aS])
      refine pl_eff rfl (fun Kp hKp => ?_)
      go_simp
      (refine (hN2 _ _ _ _ ((by assumption : Sat w0 _ _).pick (by (repeat (first | exact Pick.nil _ | exact Pick.tail _ | exact Out.here _ | apply Out.there | apply Pick.cons | apply Pick.drop))))).mono ?_; rintro e17 w17 ⟨rfl, hs17⟩; simp only at hs17 ⊢)
      (try go_wp2_with fail)
      refine hKp.out _ _ ?_
      clear hKp Kp
      (try simp only [Act.put, aP, aZ, aS])
      refine pl_take (v := ?_) rfl ?_ ?_
      rotate_left
      · (go_simp; first | done | with_reducible rfl | rfl | omega | assumption | (simp; omega))
      (try simp only [Act.put, aP, aZ, aS])
      refine pl_eff rfl (fun Kp hKp => ?_)
      go_simp
      (refine (hN3 _ _ _ _ ((by assumption : Sat w0 _ _).pick (by (repeat (first | exact Pick.nil _ | exact Pick.tail _ | exact Out.here _ | apply Out.there | apply Pick.cons | apply Pick.drop))))).mono ?_; rintro e19 w19 ⟨rfl, hs19⟩; simp only at hs19 ⊢)
      (try go_wp2_with fail)
      refine hKp.out _ _ ?_
      clear hKp Kp
      (try simp only [Act.put, aP, aZ, aS])
      iterate 2 (refine pl_take (v := ?_) rfl ?_ ?_; rotate_left; (· (go_simp; first | done | with_reducible rfl | rfl | omega | assumption | (simp; omega))); (try simp only [Act.put, aP, aZ, aS]))
      refine pl_done ?_
      refine hK13.out _ _ ?_
      (try clear hK13 K13)
      refine wk_seq (fun K14 hK14 => ?_)
      refine wk_reg ?_
      refine pl_take (v := ?_) rfl ?_ ?_
      rotate_left
      · (go_simp; first | done | with_reducible rfl | rfl | omega | assumption | (simp; omega))
      (try simp only [Act.put, aP, aZ, aS])
      refine pl_eff rfl (fun Kp hKp => ?_)
      go_simp
      (refine (hN4 _ _ _ _ ((by assumption : Sat w0 _ _).pick (by (repeat (first | exact Pick.nil _ | exact Pick.tail _ | exact Out.here _ | apply Out.there | apply Pick.cons | apply Pick.drop))))).mono ?_; rintro e21 w21 ⟨D, dc, rfl, hs21⟩; simp only at hs21 ⊢)
      (try go_wp2_with fail)
      refine hKp.out _ _ ?_
      clear hKp Kp
      (try simp only [Act.put, aP, aZ, aS])
      refine pl_take (v := ?_) rfl ?_ ?_
      rotate_left
      · (go_simp; first | done | with_reducible rfl | rfl | omega | assumption | (simp; omega))
      (try simp only [Act.put, aP, aZ, aS])
      refine pl_done ?_
      refine hK14.out _ _ ?_
      (try clear hK14 K14)
      refine wk_seq (fun K15 hK15 => ?_)
      refine wk_reg ?_
      refine pl_take (v := ?_) rfl ?_ ?_
      rotate_left
      · (go_simp; first | done | with_reducible rfl | rfl | omega | assumption | (simp; omega))
      (try simp only [Act.put, aP, aZ, aS])
      refine pl_eff rfl (fun Kp hKp => ?_)
      go_simp
      (refine (hox _ _ (by assumption)).mono ?_; rintro e23 w23 ⟨rfl, hs23⟩)
      (try go_wp2_with fail)
      refine hKp.out _ _ ?_
      clear hKp Kp
      (try simp only [Act.put, aP, aZ, aS])
      iterate 2 (refine pl_take (v := .bool true) rfl ?_ ?_; (· (go_simp; first | done | with_reducible rfl | rfl | omega | assumption | (simp; omega))); (try simp only [Act.put, aP, aZ, aS]))
      iterate 3 (refine pl_skip (by kernel_rfl) ?_; (try simp only [Act.put, aP, aZ, aS]))
      iterate 2 (refine pl_take (v := .bool true) rfl ?_ ?_; (· (go_simp; first | done | with_reducible rfl | rfl | omega | assumption | (simp; omega))); (try simp only [Act.put, aP, aZ, aS]))
      iterate 3 (refine pl_skip (by kernel_rfl) ?_; (try simp only [Act.put, aP, aZ, aS]))
      refine pl_take (v := .bool true) rfl ?_ ?_
      · (go_simp; first | done | with_reducible rfl | rfl | omega | assumption | (simp; omega))
      (try simp only [Act.put, aP, aZ, aS])
      refine pl_done ?_
      refine hK15.out _ _ ?_
      (try clear hK15 K15)
      refine wp_cond_true rfl ?_
      refine wk_reg ?_
      refine pl_take (v := ?_) rfl ?_ ?_
      rotate_left
      · (go_simp; first | done | with_reducible rfl | rfl | omega | assumption | (simp; omega))
      (try simp only [Act.put, aP, aZ, aS])
      refine pl_done ?_
      refine hK12.out _ _ ?_
      (try clear hK12 K12)
      refine wp_exit ?_
      refine hK3.out _ _ ?_
      (try clear hK3 K3)
      refine wk_seq (fun K20 hK20 => ?_)
      refine wk_seq (fun K21 hK21 => ?_)
      refine wk_reg ?_
      refine pl_take (v := ?_) rfl ?_ ?_
      rotate_left
      · (go_simp; first | done | with_reducible rfl | rfl | omega | assumption | (simp; omega))
      (try simp only [Act.put, aP, aZ, aS])
      refine pl_eff rfl (fun Kp hKp => ?_)
      go_simp
      (refine (hE4 _ _ _ _ ((by assumption : Sat w0 _ _).pick (by (repeat (first | exact Pick.nil _ | exact Pick.tail _ | exact Out.here _ | apply Out.there | apply Pick.cons | apply Pick.drop))))).mono ?_; rintro e42 w42 ⟨rfl, rfl⟩)
      (try go_wp2_with fail)
      refine hKp.out _ _ ?_
      clear hKp Kp
      (try simp only [Act.put, aP, aZ, aS])
      by_cases hen : (en != 0) = true
      · refine pl_take (v := .bool true) rfl ?_ ?_
        · (go_simp; first | done | with_reducible rfl | rfl | omega | assumption | (simp; omega))
        (try simp only [Act.put, aP, aZ, aS])
        refine pl_done ?_
        refine hK21.out _ _ ?_
        (try clear hK21 K21)
        refine wp_cond_true rfl ?_
        refine wk_reg ?_
        refine pl_take (v := ?_) rfl ?_ ?_
        rotate_left
        · (go_simp; first | done | with_reducible rfl | rfl | omega | assumption | (simp; omega))
        (try simp only [Act.put, aP, aZ, aS])
        refine pl_done ?_
        refine hK20.out _ _ ?_
        (try clear hK20 K20)
        refine wk_seq (fun K22 hK22 => ?_)
        refine wk_reg ?_
        iterate 8 (refine pl_take (v := ?_) rfl ?_ ?_; rotate_left; (· (go_simp; first | done | with_reducible rfl | rfl | omega | assumption | (simp; omega))); (try simp only [Act.put, aP, aZ, aS]))
        refine pl_done ?_
        refine hK22.out _ _ ?_
        (try clear hK22 K22)
        refine wp_ret ?_
        ((try simp only [Exit.inBlock, Exit.then]); refine bodyPost_ret (results_tmp4 rfl _ _ _) rfl ?_)
        simp at hen
        exact hfin 0 (by simp) _ D dc ((by assumption : Sat w0 _ _).pick (by (repeat (first | exact Pick.nil _ | exact Pick.tail _ | exact Out.here _ | apply Out.there | apply Pick.cons | apply Pick.drop))))
      · refine pl_take (v := .bool false) rfl ?_ ?_
        · (go_simp; first | done | with_reducible rfl | rfl | omega | assumption | (simp; omega))
        (try simp only [Act.put, aP, aZ, aS])
        refine pl_done ?_
        refine hK21.out _ _ ?_
        (try clear hK21 K21)
        refine wp_cond_false rfl ?_
        refine wp_skip ?_
        refine hK20.out _ _ ?_
        (try clear hK20 K20)
        refine wk_seq (fun K22 hK22 => ?_)
        refine wk_reg ?_
        iterate 8 (refine pl_take (v := ?_) rfl ?_ ?_; rotate_left; (· (go_simp; first | done | with_reducible rfl | rfl | omega | assumption | (simp; omega))); (try simp only [Act.put, aP, aZ, aS]))
        refine pl_done ?_
        refine hK22.out _ _ ?_
        (try clear hK22 K22)
        refine wp_ret ?_
        ((try simp only [Exit.inBlock, Exit.then]); refine bodyPost_ret (results_tmp4 rfl _ _ _) rfl ?_)
        simp at hen
        exact hfin 0 (by simp) _ D dc ((by assumption : Sat w0 _ _).pick (by (repeat (first | exact Pick.nil _ | exact Pick.tail _ | exact Out.here _ | apply Out.there | apply Pick.cons | apply Pick.drop))))
    | true =>
      cases oy with
      | false =>
        go_enter Try.func38, Try.ntmps38
        refine wk_seq (fun K0 hK0 => ?_)
        refine wk_reg ?_
        iterate 4 (refine pl_take (v := ?_) rfl ?_ ?_; rotate_left; (· (go_simp; first | done | with_reducible rfl | rfl | omega | assumption | (simp; omega))); (try simp only [Act.put, aP, aZ, aS]))
        refine pl_done ?_
        refine hK0.out _ _ ?_
        (try clear hK0 K0)
        refine wk_seq (fun K1 hK1 => ?_)
        refine wk_reg ?_
        refine pl_take (v := ?_) rfl ?_ ?_
        rotate_left
        · (go_simp; first | done | with_reducible rfl | rfl | omega | assumption | (simp; omega))
        (try simp only [Act.put, aP, aZ, aS])
        refine pl_eff rfl (fun Kp hKp => ?_)
        go_simp
        (refine (new_spec b hl (by assumption) (by (repeat (first | with_reducible assumption | with_reducible exact Rd.own | with_reducible exact Rd.nil | with_reducible apply Rd.cons)))).mono ?_; rintro e8 w8 ⟨p8, buf, rfl, hs8⟩)
        (try go_wp2_with fail)
        refine hKp.out _ _ ?_
        clear hKp Kp
        (try simp only [Act.put, aP, aZ, aS])
        refine pl_take (v := ?_) rfl ?_ ?_
        rotate_left
        · (go_simp; first | done | with_reducible rfl | rfl | omega | assumption | (simp; omega))
        (try simp only [Act.put, aP, aZ, aS])
        refine pl_done ?_
        refine hK1.out _ _ ?_
        (try clear hK1 K1)
        refine wk_seq (fun K2 hK2 => ?_)
        refine wk_reg ?_
        refine pl_take (v := ?_) rfl ?_ ?_
        rotate_left
        · (go_simp; first | done | with_reducible rfl | rfl | omega | assumption | (simp; omega))
        (try simp only [Act.put, aP, aZ, aS])
        refine pl_eff rfl (fun Kp hKp => ?_)
        go_simp
        (refine (hN1 _ _ _ _ ((by assumption : Sat w0 _ _).pick (by (repeat (first | exact Pick.nil _ | exact Pick.tail _ | exact Out.here _ | apply Out.there | apply Pick.cons | apply Pick.drop))))).mono ?_; rintro e10 w10 ⟨rfl, hs10⟩; simp only at hs10 ⊢)
        (try go_wp2_with fail)
        refine hKp.out _ _ ?_
        clear hKp Kp
        (try simp only [Act.put, aP, aZ, aS])
        refine pl_take (v := ?_) rfl ?_ ?_
        rotate_left
        · (go_simp; first | done | with_reducible rfl | rfl | omega | assumption | (simp; omega))
        (try simp only [Act.put, aP, aZ, aS])
        refine pl_done ?_
        refine hK2.out _ _ ?_
        (try clear hK2 K2)
        refine wk_seq (fun K3 hK3 => ?_)
        refine wk_seq (fun K4 hK4 => ?_)
        refine wk_reg ?_
        refine pl_take (v := ?_) rfl ?_ ?_
        rotate_left
        · (go_simp; first | done | with_reducible rfl | rfl | omega | assumption | (simp; omega))
        (try simp only [Act.put, aP, aZ, aS])
        refine pl_done ?_
        refine hK4.out _ _ ?_
        (try clear hK4 K4)
        refine wp_block ?_
        refine wk_seq (fun K5 hK5 => ?_)
        refine wp_block ?_
        refine wk_seq (fun K6 hK6 => ?_)
        refine wp_block ?_
        refine wk_seq (fun K7 hK7 => ?_)
        refine wp_block ?_
        refine wk_seq (fun K8 hK8 => ?_)
        refine wk_seq (fun K9 hK9 => ?_)
        refine wk_seq (fun K10 hK10 => ?_)
        refine wk_reg ?_
        iterate 2 (refine pl_take (v := .bool true) rfl ?_ ?_; (· (go_simp; first | done | with_reducible rfl | rfl | omega | assumption | (simp; omega))); (try simp only [Act.put, aP, aZ, aS]))
        refine pl_done ?_
        refine hK10.out _ _ ?_
        (try clear hK10 K10)
        refine wp_cond_true rfl ?_
        refine wp_exit ?_
        refine hK7.out _ _ ?_
        (try clear hK7 K7)
        refine wk_seq (fun K12 hK12 => ?_)
        refine wk_seq (fun K13 hK13 => ?_)
        refine wk_reg ?_
        refine pl_take (v := ?_) rfl ?_ ?_
        rotate_left
        · (go_simp; first | done | with_reducible rfl | rfl | omega | assumption | (simp; omega))
        (try simp only [Act.put, aP, aZ, aS])
        refine pl_eff rfl (fun Kp hKp => ?_)
        go_simp
        (refine (hN2 _ _ _ _ ((by assumption : Sat w0 _ _).pick (by (repeat (first | exact Pick.nil _ | exact Pick.tail _ | exact Out.here _ | apply Out.there | apply Pick.cons | apply Pick.drop))))).mono ?_; rintro e17 w17 ⟨rfl, hs17⟩; simp only at hs17 ⊢)
        (try go_wp2_with fail)
        refine hKp.out _ _ ?_
        clear hKp Kp
        (try simp only [Act.put, aP, aZ, aS])
        refine pl_take (v := ?_) rfl ?_ ?_
        rotate_left
        · (go_simp; first | done | with_reducible rfl | rfl | omega | assumption | (simp; omega))
        (try simp only [Act.put, aP, aZ, aS])
        refine pl_eff rfl (fun Kp hKp => ?_)
        go_simp
        (refine (hN3 _ _ _ _ ((by assumption : Sat w0 _ _).pick (by (repeat (first | exact Pick.nil _ | exact Pick.tail _ | exact Out.here _ | apply Out.there | apply Pick.cons | apply Pick.drop))))).mono ?_; rintro e19 w19 ⟨rfl, hs19⟩; simp only at hs19 ⊢)
        (try go_wp2_with fail)
        refine hKp.out _ _ ?_
        clear hKp Kp
        (try simp only [Act.put, aP, aZ, aS])
        iterate 2 (refine pl_take (v := ?_) rfl ?_ ?_; rotate_left; (· (go_simp; first | done | with_reducible rfl | rfl | omega | assumption | (simp; omega))); (try simp only [Act.put, aP, aZ, aS]))
        refine pl_done ?_
        refine hK13.out _ _ ?_
        (try clear hK13 K13)
        refine wk_seq (fun K14 hK14 => ?_)
        refine wk_reg ?_
        refine pl_take (v := ?_) rfl ?_ ?_
        rotate_left
        · (go_simp; first | done | with_reducible rfl | rfl | omega | assumption | (simp; omega))
        (try simp only [Act.put, aP, aZ, aS])
        refine pl_eff rfl (fun Kp hKp => ?_)
        go_simp
        (refine (hN4 _ _ _ _ ((by assumption : Sat w0 _ _).pick (by (repeat (first | exact Pick.nil _ | exact Pick.tail _ | exact Out.here _ | apply Out.there | apply Pick.cons | apply Pick.drop))))).mono ?_; rintro e21 w21 ⟨D, dc, rfl, hs21⟩; simp only at hs21 ⊢)
        (try go_wp2_with fail)
        refine hKp.out _ _ ?_
        clear hKp Kp
        (try simp only [Act.put, aP, aZ, aS])
        refine pl_take (v := ?_) rfl ?_ ?_
        rotate_left
        · (go_simp; first | done | with_reducible rfl | rfl | omega | assumption | (simp; omega))
        (try simp only [Act.put, aP, aZ, aS])
        refine pl_done ?_
        refine hK14.out _ _ ?_
        (try clear hK14 K14)
        refine wk_seq (fun K15 hK15 => ?_)
        refine wk_reg ?_
        refine pl_take (v := ?_) rfl ?_ ?_
        rotate_left
        · (go_simp; first | done | with_reducible rfl | rfl | omega | assumption | (simp; omega))
        (try simp only [Act.put, aP, aZ, aS])
        refine pl_eff rfl (fun Kp hKp => ?_)
        go_simp
        (refine (hox _ _ (by assumption)).mono ?_; rintro e23 w23 ⟨rfl, hs23⟩)
        (try go_wp2_with fail)
        refine hKp.out _ _ ?_
        clear hKp Kp
        (try simp only [Act.put, aP, aZ, aS])
        iterate 2 (refine pl_take (v := .bool false) rfl ?_ ?_; (· (go_simp; first | done | with_reducible rfl | rfl | omega | assumption | (simp; omega))); (try simp only [Act.put, aP, aZ, aS]))
        refine pl_take (v := ?_) (by kernel_rfl) ?_ ?_
        rotate_left
        · (go_simp; first | done | with_reducible rfl | rfl | omega | assumption | (simp; omega))
        (try simp only [Act.put, aP, aZ, aS])
        refine pl_eff (by kernel_rfl) (fun Kp hKp => ?_)
        go_simp
        (refine (hoy _ _ (by assumption)).mono ?_; rintro e27 w27 ⟨rfl, hs27⟩)
        (try go_wp2_with fail)
        refine hKp.out _ _ ?_
        clear hKp Kp
        (try simp only [Act.put, aP, aZ, aS])
        refine pl_take (v := .bool true) (by kernel_rfl) ?_ ?_
        · (go_simp; first | done | with_reducible rfl | rfl | omega | assumption | (simp; omega))
        (try simp only [Act.put, aP, aZ, aS])
        iterate 2 (refine pl_take (v := .bool true) rfl ?_ ?_; (· (go_simp; first | done | with_reducible rfl | rfl | omega | assumption | (simp; omega))); (try simp only [Act.put, aP, aZ, aS]))
        iterate 3 (refine pl_skip (by kernel_rfl) ?_; (try simp only [Act.put, aP, aZ, aS]))
        refine pl_take (v := .bool true) rfl ?_ ?_
        · (go_simp; first | done | with_reducible rfl | rfl | omega | assumption | (simp; omega))
        (try simp only [Act.put, aP, aZ, aS])
        refine pl_done ?_
        refine hK15.out _ _ ?_
        (try clear hK15 K15)
        refine wp_cond_true rfl ?_
        refine wk_reg ?_
        refine pl_take (v := ?_) rfl ?_ ?_
        rotate_left
        · (go_simp; first | done | with_reducible rfl | rfl | omega | assumption | (simp; omega))
        (try simp only [Act.put, aP, aZ, aS])
        refine pl_done ?_
        refine hK12.out _ _ ?_
        (try clear hK12 K12)
        refine wp_exit ?_
        refine hK3.out _ _ ?_
        (try clear hK3 K3)
        refine wk_seq (fun K20 hK20 => ?_)
        refine wk_seq (fun K21 hK21 => ?_)
        refine wk_reg ?_
        refine pl_take (v := ?_) rfl ?_ ?_
        rotate_left
        · (go_simp; first | done | with_reducible rfl | rfl | omega | assumption | (simp; omega))
        (try simp only [Act.put, aP, aZ, aS])
        refine pl_eff rfl (fun Kp hKp => ?_)
        go_simp
        (refine (hE4 _ _ _ _ ((by assumption : Sat w0 _ _).pick (by (repeat (first | exact Pick.nil _ | exact Pick.tail _ | exact Out.here _ | apply Out.there | apply Pick.cons | apply Pick.drop))))).mono ?_; rintro e42 w42 ⟨rfl, rfl⟩)
        (try go_wp2_with fail)
        refine hKp.out _ _ ?_
        clear hKp Kp
        (try simp only [Act.put, aP, aZ, aS])
        by_cases hen : (en != 0) = true
        · refine pl_take (v := .bool true) rfl ?_ ?_
          · (go_simp; first | done | with_reducible rfl | rfl | omega | assumption | (simp; omega))
          (try simp only [Act.put, aP, aZ, aS])
          refine pl_done ?_
          refine hK21.out _ _ ?_
          (try clear hK21 K21)
          refine wp_cond_true rfl ?_
          refine wk_reg ?_
          refine pl_take (v := ?_) rfl ?_ ?_
          rotate_left
          · (go_simp; first | done | with_reducible rfl | rfl | omega | assumption | (simp; omega))
          (try simp only [Act.put, aP, aZ, aS])
          refine pl_done ?_
          refine hK20.out _ _ ?_
          (try clear hK20 K20)
          refine wk_seq (fun K22 hK22 => ?_)
          refine wk_reg ?_
          iterate 8 (refine pl_take (v := ?_) rfl ?_ ?_; rotate_left; (· (go_simp; first | done | with_reducible rfl | rfl | omega | assumption | (simp; omega))); (try simp only [Act.put, aP, aZ, aS]))
          refine pl_done ?_
          refine hK22.out _ _ ?_
          (try clear hK22 K22)
          refine wp_ret ?_
          ((try simp only [Exit.inBlock, Exit.then]); refine bodyPost_ret (results_tmp4 rfl _ _ _) rfl ?_)
          simp at hen
          exact hfin 0 (by simp) _ D dc ((by assumption : Sat w0 _ _).pick (by (repeat (first | exact Pick.nil _ | exact Pick.tail _ | exact Out.here _ | apply Out.there | apply Pick.cons | apply Pick.drop))))
        · refine pl_take (v := .bool false) rfl ?_ ?_
          · (go_simp; first | done | with_reducible rfl | rfl | omega | assumption | (simp; omega))
          (try simp only [Act.put, aP, aZ, aS])
          refine pl_done ?_
          refine hK21.out _ _ ?_
          (try clear hK21 K21)
          refine wp_cond_false rfl ?_
          refine wp_skip ?_
          refine hK20.out _ _ ?_
          (try clear hK20 K20)
          refine wk_seq (fun K22 hK22 => ?_)
          refine wk_reg ?_
          iterate 8 (refine pl_take (v := ?_) rfl ?_ ?_; rotate_left; (· (go_simp; first | done | with_reducible rfl | rfl | omega | assumption | (simp; omega))); (try simp only [Act.put, aP, aZ, aS]))
          refine pl_done ?_
          refine hK22.out _ _ ?_
          (try clear hK22 K22)
          refine wp_ret ?_
          ((try simp only [Exit.inBlock, Exit.then]); refine bodyPost_ret (results_tmp4 rfl _ _ _) rfl ?_)
          simp at hen
          exact hfin 0 (by simp) _ D dc ((by assumption : Sat w0 _ _).pick (by (repeat (first | exact Pick.nil _ | exact Pick.tail _ | exact Out.here _ | apply Out.there | apply Pick.cons | apply Pick.drop))))
      | true =>
        by_cases hd : 1024 < d.length
        · have hd' : (1024 : Int) < (d.length : Int) := by omega
          go_enter Try.func38, Try.ntmps38
          refine wk_seq (fun K0 hK0 => ?_)
          refine wk_reg ?_
          iterate 4 (refine pl_take (v := ?_) rfl ?_ ?_; rotate_left; (· (go_simp; first | done | with_reducible rfl | rfl | omega | assumption | (simp; omega))); (try simp only [Act.put, aP, aZ, aS]))
          refine pl_done ?_
          refine hK0.out _ _ ?_
          (try clear hK0 K0)
          refine wk_seq (fun K1 hK1 => ?_)
          refine wk_reg ?_
          refine pl_take (v := ?_) rfl ?_ ?_
          rotate_left
          · (go_simp; first | done | with_reducible rfl | rfl | omega | assumption | (simp; omega))
          (try simp only [Act.put, aP, aZ, aS])
          refine pl_eff rfl (fun Kp hKp => ?_)
          go_simp
          (refine (new_spec b hl (by assumption) (by (repeat (first | with_reducible assumption | with_reducible exact Rd.own | with_reducible exact Rd.nil | with_reducible apply Rd.cons)))).mono ?_; rintro e8 w8 ⟨p8, buf, rfl, hs8⟩)
          (try go_wp2_with fail)
          refine hKp.out _ _ ?_
          clear hKp Kp
          (try simp only [Act.put, aP, aZ, aS])
          refine pl_take (v := ?_) rfl ?_ ?_
          rotate_left
          · (go_simp; first | done | with_reducible rfl | rfl | omega | assumption | (simp; omega))
          (try simp only [Act.put, aP, aZ, aS])
          refine pl_done ?_
          refine hK1.out _ _ ?_
          (try clear hK1 K1)
          refine wk_seq (fun K2 hK2 => ?_)
          refine wk_reg ?_
          refine pl_take (v := ?_) rfl ?_ ?_
          rotate_left
          · (go_simp; first | done | with_reducible rfl | rfl | omega | assumption | (simp; omega))
          (try simp only [Act.put, aP, aZ, aS])
          refine pl_eff rfl (fun Kp hKp => ?_)
          go_simp
          (refine (hN1 _ _ _ _ ((by assumption : Sat w0 _ _).pick (by (repeat (first | exact Pick.nil _ | exact Pick.tail _ | exact Out.here _ | apply Out.there | apply Pick.cons | apply Pick.drop))))).mono ?_; rintro e10 w10 ⟨rfl, hs10⟩; simp only at hs10 ⊢)
          (try go_wp2_with fail)
          refine hKp.out _ _ ?_
          clear hKp Kp
          (try simp only [Act.put, aP, aZ, aS])
          refine pl_take (v := ?_) rfl ?_ ?_
          rotate_left
          · (go_simp; first | done | with_reducible rfl | rfl | omega | assumption | (simp; omega))
          (try simp only [Act.put, aP, aZ, aS])
          refine pl_done ?_
          refine hK2.out _ _ ?_
          (try clear hK2 K2)
          refine wk_seq (fun K3 hK3 => ?_)
          refine wk_seq (fun K4 hK4 => ?_)
          refine wk_reg ?_
          refine pl_take (v := ?_) rfl ?_ ?_
          rotate_left
          · (go_simp; first | done | with_reducible rfl | rfl | omega | assumption | (simp; omega))
          (try simp only [Act.put, aP, aZ, aS])
          refine pl_done ?_
          refine hK4.out _ _ ?_
          (try clear hK4 K4)
          refine wp_block ?_
          refine wk_seq (fun K5 hK5 => ?_)
          refine wp_block ?_
          refine wk_seq (fun K6 hK6 => ?_)
          refine wp_block ?_
          refine wk_seq (fun K7 hK7 => ?_)
          refine wp_block ?_
          refine wk_seq (fun K8 hK8 => ?_)
          refine wk_seq (fun K9 hK9 => ?_)
          refine wk_seq (fun K10 hK10 => ?_)
          refine wk_reg ?_
          iterate 2 (refine pl_take (v := .bool true) rfl ?_ ?_; (· (go_simp; first | done | with_reducible rfl | rfl | omega | assumption | (simp; omega))); (try simp only [Act.put, aP, aZ, aS]))
          refine pl_done ?_
          refine hK10.out _ _ ?_
          (try clear hK10 K10)
          refine wp_cond_true rfl ?_
          refine wp_exit ?_
          refine hK7.out _ _ ?_
          (try clear hK7 K7)
          refine wk_seq (fun K12 hK12 => ?_)
          refine wk_seq (fun K13 hK13 => ?_)
          refine wk_reg ?_
          refine pl_take (v := ?_) rfl ?_ ?_
          rotate_left
          · (go_simp; first | done | with_reducible rfl | rfl | omega | assumption | (simp; omega))
          (try simp only [Act.put, aP, aZ, aS])
          refine pl_eff rfl (fun Kp hKp => ?_)
          go_simp
          (refine (hN2 _ _ _ _ ((by assumption : Sat w0 _ _).pick (by (repeat (first | exact Pick.nil _ | exact Pick.tail _ | exact Out.here _ | apply Out.there | apply Pick.cons | apply Pick.drop))))).mono ?_; rintro e17 w17 ⟨rfl, hs17⟩; simp only at hs17 ⊢)
          (try go_wp2_with fail)
          refine hKp.out _ _ ?_
          clear hKp Kp
          (try simp only [Act.put, aP, aZ, aS])
          refine pl_take (v := ?_) rfl ?_ ?_
          rotate_left
          · (go_simp; first | done | with_reducible rfl | rfl | omega | assumption | (simp; omega))
          (try simp only [Act.put, aP, aZ, aS])
          refine pl_eff rfl (fun Kp hKp => ?_)
          go_simp
          (refine (hN3 _ _ _ _ ((by assumption : Sat w0 _ _).pick (by (repeat (first | exact Pick.nil _ | exact Pick.tail _ | exact Out.here _ | apply Out.there | apply Pick.cons | apply Pick.drop))))).mono ?_; rintro e19 w19 ⟨rfl, hs19⟩; simp only at hs19 ⊢)
          (try go_wp2_with fail)
          refine hKp.out _ _ ?_
          clear hKp Kp
          (try simp only [Act.put, aP, aZ, aS])
          iterate 2 (refine pl_take (v := ?_) rfl ?_ ?_; rotate_left; (· (go_simp; first | done | with_reducible rfl | rfl | omega | assumption | (simp; omega))); (try simp only [Act.put, aP, aZ, aS]))
          refine pl_done ?_
          refine hK13.out _ _ ?_
          (try clear hK13 K13)
          refine wk_seq (fun K14 hK14 => ?_)
          refine wk_reg ?_
          refine pl_take (v := ?_) rfl ?_ ?_
          rotate_left
          · (go_simp; first | done | with_reducible rfl | rfl | omega | assumption | (simp; omega))
          (try simp only [Act.put, aP, aZ, aS])
          refine pl_eff rfl (fun Kp hKp => ?_)
          go_simp
          (refine (hN4 _ _ _ _ ((by assumption : Sat w0 _ _).pick (by (repeat (first | exact Pick.nil _ | exact Pick.tail _ | exact Out.here _ | apply Out.there | apply Pick.cons | apply Pick.drop))))).mono ?_; rintro e21 w21 ⟨D, dc, rfl, hs21⟩; simp only at hs21 ⊢)
          (try go_wp2_with fail)
          refine hKp.out _ _ ?_
          clear hKp Kp
          (try simp only [Act.put, aP, aZ, aS])
          refine pl_take (v := ?_) rfl ?_ ?_
          rotate_left
          · (go_simp; first | done | with_reducible rfl | rfl | omega | assumption | (simp; omega))
          (try simp only [Act.put, aP, aZ, aS])
          refine pl_done ?_
          refine hK14.out _ _ ?_
          (try clear hK14 K14)
          refine wk_seq (fun K15 hK15 => ?_)
          refine wk_reg ?_
          refine pl_take (v := ?_) rfl ?_ ?_
          rotate_left
          · (go_simp; first | done | with_reducible rfl | rfl | omega | assumption | (simp; omega))
          (try simp only [Act.put, aP, aZ, aS])
          refine pl_eff rfl (fun Kp hKp => ?_)
          go_simp
          (refine (hox _ _ (by assumption)).mono ?_; rintro e23 w23 ⟨rfl, hs23⟩)
          (try go_wp2_with fail)
          refine hKp.out _ _ ?_
          clear hKp Kp
          (try simp only [Act.put, aP, aZ, aS])
          iterate 2 (refine pl_take (v := .bool false) rfl ?_ ?_; (· (go_simp; first | done | with_reducible rfl | rfl | omega | assumption | (simp; omega))); (try simp only [Act.put, aP, aZ, aS]))
          refine pl_take (v := ?_) (by kernel_rfl) ?_ ?_
          rotate_left
          · (go_simp; first | done | with_reducible rfl | rfl | omega | assumption | (simp; omega))
          (try simp only [Act.put, aP, aZ, aS])
          refine pl_eff (by kernel_rfl) (fun Kp hKp => ?_)
          go_simp
          (refine (hoy _ _ (by assumption)).mono ?_; rintro e27 w27 ⟨rfl, hs27⟩)
          (try go_wp2_with fail)
          refine hKp.out _ _ ?_
          clear hKp Kp
          (try simp only [Act.put, aP, aZ, aS])
          refine pl_take (v := .bool false) (by kernel_rfl) ?_ ?_
          · (go_simp; first | done | with_reducible rfl | rfl | omega | assumption | (simp; omega))
          (try simp only [Act.put, aP, aZ, aS])
          iterate 2 (refine pl_take (v := .bool false) rfl ?_ ?_; (· (go_simp; first | done | with_reducible rfl | rfl | omega | assumption | (simp; omega))); (try simp only [Act.put, aP, aZ, aS]))
          iterate 2 (refine pl_take (v := ?_) (by kernel_rfl) ?_ ?_; rotate_left; (· (go_simp; first | done | with_reducible rfl | rfl | omega | assumption | (simp; omega))); (try simp only [Act.put, aP, aZ, aS]))
          refine pl_take (v := .bool true) (by kernel_rfl) ?_ ?_
          · (go_simp; first | done | with_reducible rfl | rfl | omega | assumption | (simp; omega))
          (try simp only [Act.put, aP, aZ, aS])
          refine pl_take (v := .bool true) rfl ?_ ?_
          · (go_simp; first | done | with_reducible rfl | rfl | omega | assumption | (simp; omega))
          (try simp only [Act.put, aP, aZ, aS])
          refine pl_done ?_
          refine hK15.out _ _ ?_
          (try clear hK15 K15)
          refine wp_cond_true rfl ?_
          refine wk_reg ?_
          refine pl_take (v := ?_) rfl ?_ ?_
          rotate_left
          · (go_simp; first | done | with_reducible rfl | rfl | omega | assumption | (simp; omega))
          (try simp only [Act.put, aP, aZ, aS])
          refine pl_done ?_
          refine hK12.out _ _ ?_
          (try clear hK12 K12)
          refine wp_exit ?_
          refine hK3.out _ _ ?_
          (try clear hK3 K3)
          refine wk_seq (fun K20 hK20 => ?_)
          refine wk_seq (fun K21 hK21 => ?_)
          refine wk_reg ?_
          refine pl_take (v := ?_) rfl ?_ ?_
          rotate_left
          · (go_simp; first | done | with_reducible rfl | rfl | omega | assumption | (simp; omega))
          (try simp only [Act.put, aP, aZ, aS])
          refine pl_eff rfl (fun Kp hKp => ?_)
          go_simp
          (refine (hE4 _ _ _ _ ((by assumption : Sat w0 _ _).pick (by (repeat (first | exact Pick.nil _ | exact Pick.tail _ | exact Out.here _ | apply Out.there | apply Pick.cons | apply Pick.drop))))).mono ?_; rintro e42 w42 ⟨rfl, rfl⟩)
          (try go_wp2_with fail)
          refine hKp.out _ _ ?_
          clear hKp Kp
          (try simp only [Act.put, aP, aZ, aS])
          by_cases hen : (en != 0) = true
          · refine pl_take (v := .bool true) rfl ?_ ?_
            · (go_simp; first | done | with_reducible rfl | rfl | omega | assumption | (simp; omega))
            (try simp only [Act.put, aP, aZ, aS])
            refine pl_done ?_
            refine hK21.out _ _ ?_
            (try clear hK21 K21)
            refine wp_cond_true rfl ?_
            refine wk_reg ?_
            refine pl_take (v := ?_) rfl ?_ ?_
            rotate_left
            · (go_simp; first | done | with_reducible rfl | rfl | omega | assumption | (simp; omega))
            (try simp only [Act.put, aP, aZ, aS])
            refine pl_done ?_
            refine hK20.out _ _ ?_
            (try clear hK20 K20)
            refine wk_seq (fun K22 hK22 => ?_)
            refine wk_reg ?_
            iterate 8 (refine pl_take (v := ?_) rfl ?_ ?_; rotate_left; (· (go_simp; first | done | with_reducible rfl | rfl | omega | assumption | (simp; omega))); (try simp only [Act.put, aP, aZ, aS]))
            refine pl_done ?_
            refine hK22.out _ _ ?_
            (try clear hK22 K22)
            refine wp_ret ?_
            ((try simp only [Exit.inBlock, Exit.then]); refine bodyPost_ret (results_tmp4 rfl _ _ _) rfl ?_)
            simp at hen
            exact hfin 0 (by simp [hd]) _ D dc ((by assumption : Sat w0 _ _).pick (by (repeat (first | exact Pick.nil _ | exact Pick.tail _ | exact Out.here _ | apply Out.there | apply Pick.cons | apply Pick.drop))))
          · refine pl_take (v := .bool false) rfl ?_ ?_
            · (go_simp; first | done | with_reducible rfl | rfl | omega | assumption | (simp; omega))
            (try simp only [Act.put, aP, aZ, aS])
            refine pl_done ?_
            refine hK21.out _ _ ?_
            (try clear hK21 K21)
            refine wp_cond_false rfl ?_
            refine wp_skip ?_
            refine hK20.out _ _ ?_
            (try clear hK20 K20)
            refine wk_seq (fun K22 hK22 => ?_)
            refine wk_reg ?_
            iterate 8 (refine pl_take (v := ?_) rfl ?_ ?_; rotate_left; (· (go_simp; first | done | with_reducible rfl | rfl | omega | assumption | (simp; omega))); (try simp only [Act.put, aP, aZ, aS]))
            refine pl_done ?_
            refine hK22.out _ _ ?_
            (try clear hK22 K22)
            refine wp_ret ?_
            ((try simp only [Exit.inBlock, Exit.then]); refine bodyPost_ret (results_tmp4 rfl _ _ _) rfl ?_)
            simp at hen
            exact hfin 0 (by simp [hd]) _ D dc ((by assumption : Sat w0 _ _).pick (by (repeat (first | exact Pick.nil _ | exact Pick.tail _ | exact Out.here _ | apply Out.there | apply Pick.cons | apply Pick.drop))))
        · have hd' : ¬ (1024 : Int) < (d.length : Int) := by omega
          go_enter Try.func38, Try.ntmps38
          refine wk_seq (fun K0 hK0 => ?_)
          refine wk_reg ?_
          iterate 4 (refine pl_take (v := ?_) rfl ?_ ?_; rotate_left; (· (go_simp; first | done | with_reducible rfl | rfl | omega | assumption | (simp; omega))); (try simp only [Act.put, aP, aZ, aS]))
          refine pl_done ?_
          refine hK0.out _ _ ?_
          (try clear hK0 K0)
          refine wk_seq (fun K1 hK1 => ?_)
          refine wk_reg ?_
          refine pl_take (v := ?_) rfl ?_ ?_
          rotate_left
          · (go_simp; first | done | with_reducible rfl | rfl | omega | assumption | (simp; omega))
          (try simp only [Act.put, aP, aZ, aS])
          refine pl_eff rfl (fun Kp hKp => ?_)
          go_simp
          (refine (new_spec b hl (by assumption) (by (repeat (first | with_reducible assumption | with_reducible exact Rd.own | with_reducible exact Rd.nil | with_reducible apply Rd.cons)))).mono ?_; rintro e8 w8 ⟨p8, buf, rfl, hs8⟩)
          (try go_wp2_with fail)
          refine hKp.out _ _ ?_
          clear hKp Kp
          (try simp only [Act.put, aP, aZ, aS])
          refine pl_take (v := ?_) rfl ?_ ?_
          rotate_left
          · (go_simp; first | done | with_reducible rfl | rfl | omega | assumption | (simp; omega))
          (try simp only [Act.put, aP, aZ, aS])
          refine pl_done ?_
          refine hK1.out _ _ ?_
          (try clear hK1 K1)
          refine wk_seq (fun K2 hK2 => ?_)
          refine wk_reg ?_
          refine pl_take (v := ?_) rfl ?_ ?_
          rotate_left
          · (go_simp; first | done | with_reducible rfl | rfl | omega | assumption | (simp; omega))
          (try simp only [Act.put, aP, aZ, aS])
          refine pl_eff rfl (fun Kp hKp => ?_)
          go_simp
          (refine (hN1 _ _ _ _ ((by assumption : Sat w0 _ _).pick (by (repeat (first | exact Pick.nil _ | exact Pick.tail _ | exact Out.here _ | apply Out.there | apply Pick.cons | apply Pick.drop))))).mono ?_; rintro e10 w10 ⟨rfl, hs10⟩; simp only at hs10 ⊢)
          (try go_wp2_with fail)
          refine hKp.out _ _ ?_
          clear hKp Kp
          (try simp only [Act.put, aP, aZ, aS])
          refine pl_take (v := ?_) rfl ?_ ?_
          rotate_left
          · (go_simp; first | done | with_reducible rfl | rfl | omega | assumption | (simp; omega))
          (try simp only [Act.put, aP, aZ, aS])
          refine pl_done ?_
          refine hK2.out _ _ ?_
          (try clear hK2 K2)
          refine wk_seq (fun K3 hK3 => ?_)
          refine wk_seq (fun K4 hK4 => ?_)
          refine wk_reg ?_
          refine pl_take (v := ?_) rfl ?_ ?_
          rotate_left
          · (go_simp; first | done | with_reducible rfl | rfl | omega | assumption | (simp; omega))
          (try simp only [Act.put, aP, aZ, aS])
          refine pl_done ?_
          refine hK4.out _ _ ?_
          (try clear hK4 K4)
          refine wp_block ?_
          refine wk_seq (fun K5 hK5 => ?_)
          refine wp_block ?_
          refine wk_seq (fun K6 hK6 => ?_)
          refine wp_block ?_
          refine wk_seq (fun K7 hK7 => ?_)
          refine wp_block ?_
          refine wk_seq (fun K8 hK8 => ?_)
          refine wk_seq (fun K9 hK9 => ?_)
          refine wk_seq (fun K10 hK10 => ?_)
          refine wk_reg ?_
          iterate 2 (refine pl_take (v := .bool true) rfl ?_ ?_; (· (go_simp; first | done | with_reducible rfl | rfl | omega | assumption | (simp; omega))); (try simp only [Act.put, aP, aZ, aS]))
          refine pl_done ?_
          refine hK10.out _ _ ?_
          (try clear hK10 K10)
          refine wp_cond_true rfl ?_
          refine wp_exit ?_
          refine hK7.out _ _ ?_
          (try clear hK7 K7)
          refine wk_seq (fun K12 hK12 => ?_)
          refine wk_seq (fun K13 hK13 => ?_)
          refine wk_reg ?_
          refine pl_take (v := ?_) rfl ?_ ?_
          rotate_left
          · (go_simp; first | done | with_reducible rfl | rfl | omega | assumption | (simp; omega))
          (try simp only [Act.put, aP, aZ, aS])
          refine pl_eff rfl (fun Kp hKp => ?_)
          go_simp
          (refine (hN2 _ _ _ _ ((by assumption : Sat w0 _ _).pick (by (repeat (first | exact Pick.nil _ | exact Pick.tail _ | exact Out.here _ | apply Out.there | apply Pick.cons | apply Pick.drop))))).mono ?_; rintro e17 w17 ⟨rfl, hs17⟩; simp only at hs17 ⊢)
          (try go_wp2_with fail)
          refine hKp.out _ _ ?_
          clear hKp Kp
          (try simp only [Act.put, aP, aZ, aS])
          refine pl_take (v := ?_) rfl ?_ ?_
          rotate_left
          · (go_simp; first | done | with_reducible rfl | rfl | omega | assumption | (simp; omega))
          (try simp only [Act.put, aP, aZ, aS])
          refine pl_eff rfl (fun Kp hKp => ?_)
          go_simp
          (refine (hN3 _ _ _ _ ((by assumption : Sat w0 _ _).pick (by (repeat (first | exact Pick.nil _ | exact Pick.tail _ | exact Out.here _ | apply Out.there | apply Pick.cons | apply Pick.drop))))).mono ?_; rintro e19 w19 ⟨rfl, hs19⟩; simp only at hs19 ⊢)
          (try go_wp2_with fail)
          refine hKp.out _ _ ?_
          clear hKp Kp
          (try simp only [Act.put, aP, aZ, aS])
          iterate 2 (refine pl_take (v := ?_) rfl ?_ ?_; rotate_left; (· (go_simp; first | done | with_reducible rfl | rfl | omega | assumption | (simp; omega))); (try simp only [Act.put, aP, aZ, aS]))
          refine pl_done ?_
          refine hK13.out _ _ ?_
          (try clear hK13 K13)
          refine wk_seq (fun K14 hK14 => ?_)
          refine wk_reg ?_
          refine pl_take (v := ?_) rfl ?_ ?_
          rotate_left
          · (go_simp; first | done | with_reducible rfl | rfl | omega | assumption | (simp; omega))
          (try simp only [Act.put, aP, aZ, aS])
          refine pl_eff rfl (fun Kp hKp => ?_)
          go_simp
          (refine (hN4 _ _ _ _ ((by assumption : Sat w0 _ _).pick (by (repeat (first | exact Pick.nil _ | exact Pick.tail _ | exact Out.here _ | apply Out.there | apply Pick.cons | apply Pick.drop))))).mono ?_; rintro e21 w21 ⟨D, dc, rfl, hs21⟩; simp only at hs21 ⊢)
          (try go_wp2_with fail)
          refine hKp.out _ _ ?_
          clear hKp Kp
          (try simp only [Act.put, aP, aZ, aS])
          refine pl_take (v := ?_) rfl ?_ ?_
          rotate_left
          · (go_simp; first | done | with_reducible rfl | rfl | omega | assumption | (simp; omega))
          (try simp only [Act.put, aP, aZ, aS])
          refine pl_done ?_
          refine hK14.out _ _ ?_
          (try clear hK14 K14)
          refine wk_seq (fun K15 hK15 => ?_)
          refine wk_reg ?_
          refine pl_take (v := ?_) rfl ?_ ?_
          rotate_left
          · (go_simp; first | done | with_reducible rfl | rfl | omega | assumption | (simp; omega))
          (try simp only [Act.put, aP, aZ, aS])
          refine pl_eff rfl (fun Kp hKp => ?_)
          go_simp
          (refine (hox _ _ (by assumption)).mono ?_; rintro e23 w23 ⟨rfl, hs23⟩)
          (try go_wp2_with fail)
          refine hKp.out _ _ ?_
          clear hKp Kp
          (try simp only [Act.put, aP, aZ, aS])
          iterate 2 (refine pl_take (v := .bool false) rfl ?_ ?_; (· (go_simp; first | done | with_reducible rfl | rfl | omega | assumption | (simp; omega))); (try simp only [Act.put, aP, aZ, aS]))
          refine pl_take (v := ?_) (by kernel_rfl) ?_ ?_
          rotate_left
          · (go_simp; first | done | with_reducible rfl | rfl | omega | assumption | (simp; omega))
          (try simp only [Act.put, aP, aZ, aS])
          refine pl_eff (by kernel_rfl) (fun Kp hKp => ?_)
          go_simp
          (refine (hoy _ _ (by assumption)).mono ?_; rintro e27 w27 ⟨rfl, hs27⟩)
          (try go_wp2_with fail)
          refine hKp.out _ _ ?_
          clear hKp Kp
          (try simp only [Act.put, aP, aZ, aS])
          refine pl_take (v := .bool false) (by kernel_rfl) ?_ ?_
          · (go_simp; first | done | with_reducible rfl | rfl | omega | assumption | (simp; omega))
          (try simp only [Act.put, aP, aZ, aS])
          iterate 2 (refine pl_take (v := .bool false) rfl ?_ ?_; (· (go_simp; first | done | with_reducible rfl | rfl | omega | assumption | (simp; omega))); (try simp only [Act.put, aP, aZ, aS]))
          iterate 2 (refine pl_take (v := ?_) (by kernel_rfl) ?_ ?_; rotate_left; (· (go_simp; first | done | with_reducible rfl | rfl | omega | assumption | (simp; omega))); (try simp only [Act.put, aP, aZ, aS]))
          refine pl_take (v := .bool false) (by kernel_rfl) ?_ ?_
          · (go_simp; first | done | with_reducible rfl | rfl | omega | assumption | (simp; omega))
          (try simp only [Act.put, aP, aZ, aS])
          refine pl_take (v := .bool false) rfl ?_ ?_
          · (go_simp; first | done | with_reducible rfl | rfl | omega | assumption | (simp; omega))
          (try simp only [Act.put, aP, aZ, aS])
          refine pl_done ?_
          refine hK15.out _ _ ?_
          (try clear hK15 K15)
          refine wp_cond_false rfl ?_
          refine wp_skip ?_
          refine hK12.out _ _ ?_
          (try clear hK12 K12)
          refine wp_exit ?_
          refine hK3.out _ _ ?_
          (try clear hK3 K3)
          refine wk_seq (fun K20 hK20 => ?_)
          refine wk_seq (fun K21 hK21 => ?_)
          refine wk_reg ?_
          refine pl_take (v := ?_) rfl ?_ ?_
          rotate_left
          · (go_simp; first | done | with_reducible rfl | rfl | omega | assumption | (simp; omega))
          (try simp only [Act.put, aP, aZ, aS])
          refine pl_eff rfl (fun Kp hKp => ?_)
          go_simp
          (refine (hE4 _ _ _ _ ((by assumption : Sat w0 _ _).pick (by (repeat (first | exact Pick.nil _ | exact Pick.tail _ | exact Out.here _ | apply Out.there | apply Pick.cons | apply Pick.drop))))).mono ?_; rintro e42 w42 ⟨rfl, rfl⟩)
          (try go_wp2_with fail)
          refine hKp.out _ _ ?_
          clear hKp Kp
          (try simp only [Act.put, aP, aZ, aS])
          by_cases hen : (en != 0) = true
          · refine pl_take (v := .bool true) rfl ?_ ?_
            · (go_simp; first | done | with_reducible rfl | rfl | omega | assumption | (simp; omega))
            (try simp only [Act.put, aP, aZ, aS])
            refine pl_done ?_
            refine hK21.out _ _ ?_
            (try clear hK21 K21)
            refine wp_cond_true rfl ?_
            refine wk_reg ?_
            refine pl_take (v := ?_) rfl ?_ ?_
            rotate_left
            · (go_simp; first | done | with_reducible rfl | rfl | omega | assumption | (simp; omega))
            (try simp only [Act.put, aP, aZ, aS])
            refine pl_done ?_
            refine hK20.out _ _ ?_
            (try clear hK20 K20)
            refine wk_seq (fun K22 hK22 => ?_)
            refine wk_reg ?_
            iterate 8 (refine pl_take (v := ?_) rfl ?_ ?_; rotate_left; (· (go_simp; first | done | with_reducible rfl | rfl | omega | assumption | (simp; omega))); (try simp only [Act.put, aP, aZ, aS]))
            refine pl_done ?_
            refine hK22.out _ _ ?_
            (try clear hK22 K22)
            refine wp_ret ?_
            ((try simp only [Exit.inBlock, Exit.then]); refine bodyPost_ret (results_tmp4 rfl _ _ _) rfl ?_)
            simp at hen
            first | exact hfin 0 (if_pos hen).symm _ D dc ((by assumption : Sat w0 _ _).pick (by (repeat (first | exact Pick.nil _ | exact Pick.tail _ | exact Out.here _ | apply Out.there | apply Pick.cons | apply Pick.drop)))) | exact hfin 2 (by simp [hen]; omega) _ D dc ((by assumption : Sat w0 _ _).pick (by (repeat (first | exact Pick.nil _ | exact Pick.tail _ | exact Out.here _ | apply Out.there | apply Pick.cons | apply Pick.drop))))
          · refine pl_take (v := .bool false) rfl ?_ ?_
            · (go_simp; first | done | with_reducible rfl | rfl | omega | assumption | (simp; omega))
            (try simp only [Act.put, aP, aZ, aS])
            refine pl_done ?_
            refine hK21.out _ _ ?_
            (try clear hK21 K21)
            refine wp_cond_false rfl ?_
            refine wp_skip ?_
            refine hK20.out _ _ ?_
            (try clear hK20 K20)
            refine wk_seq (fun K22 hK22 => ?_)
            refine wk_reg ?_
            iterate 8 (refine pl_take (v := ?_) rfl ?_ ?_; rotate_left; (· (go_simp; first | done | with_reducible rfl | rfl | omega | assumption | (simp; omega))); (try simp only [Act.put, aP, aZ, aS]))
            refine pl_done ?_
            refine hK22.out _ _ ?_
            (try clear hK22 K22)
            refine wp_ret ?_
            ((try simp only [Exit.inBlock, Exit.then]); refine bodyPost_ret (results_tmp4 rfl _ _ _) rfl ?_)
            simp at hen
            first | exact hfin 0 (if_pos hen).symm _ D dc ((by assumption : Sat w0 _ _).pick (by (repeat (first | exact Pick.nil _ | exact Pick.tail _ | exact Out.here _ | apply Out.there | apply Pick.cons | apply Pick.drop)))) | exact hfin 2 (by simp [hen]; omega) _ D dc ((by assumption : Sat w0 _ _).pick (by (repeat (first | exact Pick.nil _ | exact Pick.tail _ | exact Out.here _ | apply Out.there | apply Pick.cons | apply Pick.drop))))
  · rw [if_neg k2] at hC1
    have k2' : (k == 2) = false := by simpa using k2
    clear k2
    by_cases k3 : k = 3
    · subst k3
      rw [if_pos rfl] at hC1
      obtain ⟨⟨x, e2, r2⟩, h2⟩ : ∃ z, rdNumber e1 r1 = z := ⟨_, rfl⟩
      have hN2 := fun (w : World) (L' : List HP) (buf : HP) (p : Nat) (hs : Sat w0 w (Rd1 buf p e1 r1 :: buf :: L')) => number_read e1 r1 (by omega) hs
      have hE4 := fun (w : World) (L' : List HP) (buf : HP) (p : Nat) (hs : Sat w0 w (Rd1 buf p e2 r2 :: L')) => end_spec hs
      rw [h2] at hN2
      simp only [h2] at hC1
      obtain ⟨en, he⟩ : ∃ o, rdEnd e2 r2 = o := ⟨_, rfl⟩
      rw [he] at hE4 hC1
      have HC := Hid.mk' hC1
      clear hC1 h2 he hE1
      have hfin : ∀ kd : Int, (kd = if en ≠ 0 then 0 else if 1099511627776 ≤ x then 0 else 3) → ∀ (w : World), Sat w0 w L → RetCmd w0 L C (.returned (.tuple #[.int .i64 kd, .int .i64 x, .int .i64 0, .slice none 0 0])) w := fun kd hkd w hs => by
        have := HC.out
        rw [← hkd] at this
        subst this
        exact ⟨0, 0, none, rfl, rfl, hnil hs⟩
      clear HC
      by_cases hx : 1099511627776 ≤ x
      · go_enter Try.func38, Try.ntmps38
        refine wk_seq (fun K0 hK0 => ?_)
        refine wk_reg ?_
        iterate 4 (refine pl_take (v := ?_) rfl ?_ ?_; rotate_left; (· (go_simp; first | done | with_reducible rfl | rfl | omega | assumption | (simp; omega))); (try simp only [Act.put, aP, aZ, aS]))
        refine pl_done ?_
        refine hK0.out _ _ ?_
        (try clear hK0 K0)
        refine wk_seq (fun K1 hK1 => ?_)
        refine wk_reg ?_
        refine pl_take (v := ?_) rfl ?_ ?_
        rotate_left
        · (go_simp; first | done | with_reducible rfl | rfl | omega | assumption | (simp; omega))
        (try simp only [Act.put, aP, aZ, aS])
        refine pl_eff rfl (fun Kp hKp => ?_)
        go_simp
        (refine (new_spec b hl (by assumption) (by (repeat (first | with_reducible assumption | with_reducible exact Rd.own | with_reducible exact Rd.nil | with_reducible apply Rd.cons)))).mono ?_; rintro e8 w8 ⟨p8, buf, rfl, hs8⟩)
        (try go_wp2_with fail)
        refine hKp.out _ _ ?_
        clear hKp Kp
        (try simp only [Act.put, aP, aZ, aS])
        refine pl_take (v := ?_) rfl ?_ ?_
        rotate_left
        · (go_simp; first | done | with_reducible rfl | rfl | omega | assumption | (simp; omega))
        (try simp only [Act.put, aP, aZ, aS])
        refine pl_done ?_
        refine hK1.out _ _ ?_
        (try clear hK1 K1)
        refine wk_seq (fun K2 hK2 => ?_)
        refine wk_reg ?_
        refine pl_take (v := ?_) rfl ?_ ?_
        rotate_left
        · (go_simp; first | done | with_reducible rfl | rfl | omega | assumption | (simp; omega))
        (try simp only [Act.put, aP, aZ, aS])
        refine pl_eff rfl (fun Kp hKp => ?_)
        go_simp
        (refine (hN1 _ _ _ _ ((by assumption : Sat w0 _ _).pick (by (repeat (first | exact Pick.nil _ | exact Pick.tail _ | exact Out.here _ | apply Out.there | apply Pick.cons | apply Pick.drop))))).mono ?_; rintro e10 w10 ⟨rfl, hs10⟩; simp only at hs10 ⊢)
        (try go_wp2_with fail)
        refine hKp.out _ _ ?_
        clear hKp Kp
        (try simp only [Act.put, aP, aZ, aS])
        refine pl_take (v := ?_) rfl ?_ ?_
        rotate_left
        · (go_simp; first | done | with_reducible rfl | rfl | omega | assumption | (simp; omega))
        (try simp only [Act.put, aP, aZ, aS])
        refine pl_done ?_
        refine hK2.out _ _ ?_
        (try clear hK2 K2)
        refine wk_seq (fun K3 hK3 => ?_)
        refine wk_seq (fun K4 hK4 => ?_)
        refine wk_reg ?_
        refine pl_take (v := ?_) rfl ?_ ?_
        rotate_left
        · (go_simp; first | done | with_reducible rfl | rfl | omega | assumption | (simp; omega))
        (try simp only [Act.put, aP, aZ, aS])
        refine pl_done ?_
        refine hK4.out _ _ ?_
        (try clear hK4 K4)
        refine wp_block ?_
        refine wk_seq (fun K5 hK5 => ?_)
        refine wp_block ?_
        refine wk_seq (fun K6 hK6 => ?_)
        refine wp_block ?_
        refine wk_seq (fun K7 hK7 => ?_)
        refine wp_block ?_
        refine wk_seq (fun K8 hK8 => ?_)
        refine wk_seq (fun K9 hK9 => ?_)
        refine wk_seq (fun K10 hK10 => ?_)
        refine wk_reg ?_
        iterate 2 (refine pl_take (v := .bool false) rfl ?_ ?_; (· (go_simp; first | done | with_reducible rfl | rfl | omega | assumption | (simp; omega))); (try simp only [Act.put, aP, aZ, aS]))
        refine pl_done ?_
        refine hK10.out _ _ ?_
        (try clear hK10 K10)
        refine wp_cond_false rfl ?_
        refine wp_skip ?_
        refine hK9.out _ _ ?_
        (try clear hK9 K9)
        refine wk_seq (fun K11 hK11 => ?_)
        refine wk_reg ?_
        iterate 2 (refine pl_take (v := .bool true) rfl ?_ ?_; (· (go_simp; first | done | with_reducible rfl | rfl | omega | assumption | (simp; omega))); (try simp only [Act.put, aP, aZ, aS]))
        refine pl_done ?_
        refine hK11.out _ _ ?_
        (try clear hK11 K11)
        refine wp_cond_true rfl ?_
        refine wp_exit ?_
        refine hK6.out _ _ ?_
        (try clear hK6 K6)
        refine wk_seq (fun K16 hK16 => ?_)
        refine wk_reg ?_
        refine pl_take (v := ?_) rfl ?_ ?_
        rotate_left
        · (go_simp; first | done | with_reducible rfl | rfl | omega | assumption | (simp; omega))
        (try simp only [Act.put, aP, aZ, aS])
        refine pl_eff rfl (fun Kp hKp => ?_)
        go_simp
        (refine (hN2 _ _ _ _ ((by assumption : Sat w0 _ _).pick (by (repeat (first | exact Pick.nil _ | exact Pick.tail _ | exact Out.here _ | apply Out.there | apply Pick.cons | apply Pick.drop))))).mono ?_; rintro e36 w36 ⟨rfl, hs36⟩; simp only at hs36 ⊢)
        (try go_wp2_with fail)
        refine hKp.out _ _ ?_
        clear hKp Kp
        (try simp only [Act.put, aP, aZ, aS])
        refine pl_take (v := ?_) rfl ?_ ?_
        rotate_left
        · (go_simp; first | done | with_reducible rfl | rfl | omega | assumption | (simp; omega))
        (try simp only [Act.put, aP, aZ, aS])
        refine pl_done ?_
        refine hK16.out _ _ ?_
        (try clear hK16 K16)
        refine wk_seq (fun K17 hK17 => ?_)
        refine wk_reg ?_
        refine pl_take (v := ?_) rfl ?_ ?_
        rotate_left
        · (go_simp; first | done | with_reducible rfl | rfl | omega | assumption | (simp; omega))
        (try simp only [Act.put, aP, aZ, aS])
        refine pl_take (v := .bool true) rfl ?_ ?_
        · (go_simp; first | done | with_reducible rfl | rfl | omega | assumption | (simp; omega))
        (try simp only [Act.put, aP, aZ, aS])
        refine pl_done ?_
        refine hK17.out _ _ ?_
        (try clear hK17 K17)
        refine wp_cond_true rfl ?_
        refine wk_reg ?_
        refine pl_take (v := ?_) rfl ?_ ?_
        rotate_left
        · (go_simp; first | done | with_reducible rfl | rfl | omega | assumption | (simp; omega))
        (try simp only [Act.put, aP, aZ, aS])
        refine pl_done ?_
        refine hK5.out _ _ ?_
        (try clear hK5 K5)
        refine wk_seq (fun K18 hK18 => ?_)
        refine wk_seq (fun K19 hK19 => ?_)
        refine wk_reg ?_
        refine pl_take (v := ?_) rfl ?_ ?_
        rotate_left
        · (go_simp; first | done | with_reducible rfl | rfl | omega | assumption | (simp; omega))
        (try simp only [Act.put, aP, aZ, aS])
        refine pl_take (v := .bool false) rfl ?_ ?_
        · (go_simp; first | done | with_reducible rfl | rfl | omega | assumption | (simp; omega))
        (try simp only [Act.put, aP, aZ, aS])
        refine pl_done ?_
        refine hK19.out _ _ ?_
        (try clear hK19 K19)
        refine wp_cond_false rfl ?_
        refine wp_skip ?_
        refine hK18.out _ _ ?_
        (try clear hK18 K18)
        refine wp_exit ?_
        refine hK3.out _ _ ?_
        (try clear hK3 K3)
        refine wk_seq (fun K20 hK20 => ?_)
        refine wk_seq (fun K21 hK21 => ?_)
        refine wk_reg ?_
        refine pl_take (v := ?_) rfl ?_ ?_
        rotate_left
        · (go_simp; first | done | with_reducible rfl | rfl | omega | assumption | (simp; omega))
        (try simp only [Act.put, aP, aZ, aS])
        refine pl_eff rfl (fun Kp hKp => ?_)
        go_simp
        (refine (hE4 _ _ _ _ ((by assumption : Sat w0 _ _).pick (by (repeat (first | exact Pick.nil _ | exact Pick.tail _ | exact Out.here _ | apply Out.there | apply Pick.cons | apply Pick.drop))))).mono ?_; rintro e42 w42 ⟨rfl, rfl⟩)
        (try go_wp2_with fail)
        refine hKp.out _ _ ?_
        clear hKp Kp
        (try simp only [Act.put, aP, aZ, aS])
        by_cases hen : (en != 0) = true
        · refine pl_take (v := .bool true) rfl ?_ ?_
          · (go_simp; first | done | with_reducible rfl | rfl | omega | assumption | (simp; omega))
          (try simp only [Act.put, aP, aZ, aS])
          refine pl_done ?_
          refine hK21.out _ _ ?_
          (try clear hK21 K21)
          refine wp_cond_true rfl ?_
          refine wk_reg ?_
          refine pl_take (v := ?_) rfl ?_ ?_
          rotate_left
          · (go_simp; first | done | with_reducible rfl | rfl | omega | assumption | (simp; omega))
          (try simp only [Act.put, aP, aZ, aS])
          refine pl_done ?_
          refine hK20.out _ _ ?_
          (try clear hK20 K20)
          refine wk_seq (fun K22 hK22 => ?_)
          refine wk_reg ?_
          iterate 8 (refine pl_take (v := ?_) rfl ?_ ?_; rotate_left; (· (go_simp; first | done | with_reducible rfl | rfl | omega | assumption | (simp; omega))); (try simp only [Act.put, aP, aZ, aS]))
          refine pl_done ?_
          refine hK22.out _ _ ?_
          (try clear hK22 K22)
          refine wp_ret ?_
          ((try simp only [Exit.inBlock, Exit.then]); refine bodyPost_ret (results_tmp4 rfl _ _ _) rfl ?_)
          simp at hen
          exact hfin 0 (by simp [hx]) _ ((by assumption : Sat w0 _ _).pick (by (repeat (first | exact Pick.nil _ | exact Pick.tail _ | exact Out.here _ | apply Out.there | apply Pick.cons | apply Pick.drop))))
        · refine pl_take (v := .bool false) rfl ?_ ?_
          · (go_simp; first | done | with_reducible rfl | rfl | omega | assumption | (simp; omega))
          (try simp only [Act.put, aP, aZ, aS])
          refine pl_done ?_
          refine hK21.out _ _ ?_
          (try clear hK21 K21)
          refine wp_cond_false rfl ?_
          refine wp_skip ?_
          refine hK20.out _ _ ?_
          (try clear hK20 K20)
          refine wk_seq (fun K22 hK22 => ?_)
          refine wk_reg ?_
          iterate 8 (refine pl_take (v := ?_) rfl ?_ ?_; rotate_left; (· (go_simp; first | done | with_reducible rfl | rfl | omega | assumption | (simp; omega))); (try simp only [Act.put, aP, aZ, aS]))
          refine pl_done ?_
          refine hK22.out _ _ ?_
          (try clear hK22 K22)
          refine wp_ret ?_
          ((try simp only [Exit.inBlock, Exit.then]); refine bodyPost_ret (results_tmp4 rfl _ _ _) rfl ?_)
          simp at hen
          exact hfin 0 (by simp [hx]) _ ((by assumption : Sat w0 _ _).pick (by (repeat (first | exact Pick.nil _ | exact Pick.tail _ | exact Out.here _ | apply Out.there | apply Pick.cons | apply Pick.drop))))
      · go_enter Try.func38, Try.ntmps38
        refine wk_seq (fun K0 hK0 => ?_)
        refine wk_reg ?_
        iterate 4 (refine pl_take (v := ?_) rfl ?_ ?_; rotate_left; (· (go_simp; first | done | with_reducible rfl | rfl | omega | assumption | (simp; omega))); (try simp only [Act.put, aP, aZ, aS]))
        refine pl_done ?_
        refine hK0.out _ _ ?_
        (try clear hK0 K0)
        refine wk_seq (fun K1 hK1 => ?_)
        refine wk_reg ?_
        refine pl_take (v := ?_) rfl ?_ ?_
        rotate_left
        · (go_simp; first | done | with_reducible rfl | rfl | omega | assumption | (simp; omega))
        (try simp only [Act.put, aP, aZ, aS])
        refine pl_eff rfl (fun Kp hKp => ?_)
        go_simp
        (refine (new_spec b hl (by assumption) (by (repeat (first | with_reducible assumption | with_reducible exact Rd.own | with_reducible exact Rd.nil | with_reducible apply Rd.cons)))).mono ?_; rintro e8 w8 ⟨p8, buf, rfl, hs8⟩)
        (try go_wp2_with fail)
        refine hKp.out _ _ ?_
        clear hKp Kp
        (try simp only [Act.put, aP, aZ, aS])
        refine pl_take (v := ?_) rfl ?_ ?_
        rotate_left
        · (go_simp; first | done | with_reducible rfl | rfl | omega | assumption | (simp; omega))
        (try simp only [Act.put, aP, aZ, aS])
        refine pl_done ?_
        refine hK1.out _ _ ?_
        (try clear hK1 K1)
        refine wk_seq (fun K2 hK2 => ?_)
        refine wk_reg ?_
        refine pl_take (v := ?_) rfl ?_ ?_
        rotate_left
        · (go_simp; first | done | with_reducible rfl | rfl | omega | assumption | (simp; omega))
        (try simp only [Act.put, aP, aZ, aS])
        refine pl_eff rfl (fun Kp hKp => ?_)
        go_simp
        (refine (hN1 _ _ _ _ ((by assumption : Sat w0 _ _).pick (by (repeat (first | exact Pick.nil _ | exact Pick.tail _ | exact Out.here _ | apply Out.there | apply Pick.cons | apply Pick.drop))))).mono ?_; rintro e10 w10 ⟨rfl, hs10⟩; simp only at hs10 ⊢)
        (try go_wp2_with fail)
        refine hKp.out _ _ ?_
        clear hKp Kp
        (try simp only [Act.put, aP, aZ, aS])
        refine pl_take (v := ?_) rfl ?_ ?_
        rotate_left
        · (go_simp; first | done | with_reducible rfl | rfl | omega | assumption | (simp; omega))
        (try simp only [Act.put, aP, aZ, aS])
        refine pl_done ?_
        refine hK2.out _ _ ?_
        (try clear hK2 K2)
        refine wk_seq (fun K3 hK3 => ?_)
        refine wk_seq (fun K4 hK4 => ?_)
        refine wk_reg ?_
        refine pl_take (v := ?_) rfl ?_ ?_
        rotate_left
        · (go_simp; first | done | with_reducible rfl | rfl | omega | assumption | (simp; omega))
        (try simp only [Act.put, aP, aZ, aS])
        refine pl_done ?_
        refine hK4.out _ _ ?_
        (try clear hK4 K4)
        refine wp_block ?_
        refine wk_seq (fun K5 hK5 => ?_)
        refine wp_block ?_
        refine wk_seq (fun K6 hK6 => ?_)
        refine wp_block ?_
        refine wk_seq (fun K7 hK7 => ?_)
        refine wp_block ?_
        refine wk_seq (fun K8 hK8 => ?_)
        refine wk_seq (fun K9 hK9 => ?_)
        refine wk_seq (fun K10 hK10 => ?_)
        refine wk_reg ?_
        iterate 2 (refine pl_take (v := .bool false) rfl ?_ ?_; (· (go_simp; first | done | with_reducible rfl | rfl | omega | assumption | (simp; omega))); (try simp only [Act.put, aP, aZ, aS]))
        refine pl_done ?_
        refine hK10.out _ _ ?_
        (try clear hK10 K10)
        refine wp_cond_false rfl ?_
        refine wp_skip ?_
        refine hK9.out _ _ ?_
        (try clear hK9 K9)
        refine wk_seq (fun K11 hK11 => ?_)
        refine wk_reg ?_
        iterate 2 (refine pl_take (v := .bool true) rfl ?_ ?_; (· (go_simp; first | done | with_reducible rfl | rfl | omega | assumption | (simp; omega))); (try simp only [Act.put, aP, aZ, aS]))
        refine pl_done ?_
        refine hK11.out _ _ ?_
        (try clear hK11 K11)
        refine wp_cond_true rfl ?_
        refine wp_exit ?_
        refine hK6.out _ _ ?_
        (try clear hK6 K6)
        refine wk_seq (fun K16 hK16 => ?_)
        refine wk_reg ?_
        refine pl_take (v := ?_) rfl ?_ ?_
        rotate_left
        · (go_simp; first | done | with_reducible rfl | rfl | omega | assumption | (simp; omega))
        (try simp only [Act.put, aP, aZ, aS])
        refine pl_eff rfl (fun Kp hKp => ?_)
        go_simp
        (refine (hN2 _ _ _ _ ((by assumption : Sat w0 _ _).pick (by (repeat (first | exact Pick.nil _ | exact Pick.tail _ | exact Out.here _ | apply Out.there | apply Pick.cons | apply Pick.drop))))).mono ?_; rintro e36 w36 ⟨rfl, hs36⟩; simp only at hs36 ⊢)
        (try go_wp2_with fail)
        refine hKp.out _ _ ?_
        clear hKp Kp
        (try simp only [Act.put, aP, aZ, aS])
        refine pl_take (v := ?_) rfl ?_ ?_
        rotate_left
        · (go_simp; first | done | with_reducible rfl | rfl | omega | assumption | (simp; omega))
        (try simp only [Act.put, aP, aZ, aS])
        refine pl_done ?_
        refine hK16.out _ _ ?_
        (try clear hK16 K16)
        refine wk_seq (fun K17 hK17 => ?_)
        refine wk_reg ?_
        refine pl_take (v := ?_) rfl ?_ ?_
        rotate_left
        · (go_simp; first | done | with_reducible rfl | rfl | omega | assumption | (simp; omega))
        (try simp only [Act.put, aP, aZ, aS])
        refine pl_take (v := .bool false) rfl ?_ ?_
        · (go_simp; first | done | with_reducible rfl | rfl | omega | assumption | (simp; omega))
        (try simp only [Act.put, aP, aZ, aS])
        refine pl_done ?_
        refine hK17.out _ _ ?_
        (try clear hK17 K17)
        refine wp_cond_false rfl ?_
        refine wp_skip ?_
        refine hK5.out _ _ ?_
        (try clear hK5 K5)
        refine wk_seq (fun K18 hK18 => ?_)
        refine wk_seq (fun K19 hK19 => ?_)
        refine wk_reg ?_
        refine pl_take (v := ?_) rfl ?_ ?_
        rotate_left
        · (go_simp; first | done | with_reducible rfl | rfl | omega | assumption | (simp; omega))
        (try simp only [Act.put, aP, aZ, aS])
        refine pl_take (v := .bool false) rfl ?_ ?_
        · (go_simp; first | done | with_reducible rfl | rfl | omega | assumption | (simp; omega))
        (try simp only [Act.put, aP, aZ, aS])
        refine pl_done ?_
        refine hK19.out _ _ ?_
        (try clear hK19 K19)
        refine wp_cond_false rfl ?_
        refine wp_skip ?_
        refine hK18.out _ _ ?_
        (try clear hK18 K18)
        refine wp_exit ?_
        refine hK3.out _ _ ?_
        (try clear hK3 K3)
        refine wk_seq (fun K20 hK20 => ?_)
        refine wk_seq (fun K21 hK21 => ?_)
        refine wk_reg ?_
        refine pl_take (v := ?_) rfl ?_ ?_
        rotate_left
        · (go_simp; first | done | with_reducible rfl | rfl | omega | assumption | (simp; omega))
        (try simp only [Act.put, aP, aZ, aS])
        refine pl_eff rfl (fun Kp hKp => ?_)
        go_simp
        (refine (hE4 _ _ _ _ ((by assumption : Sat w0 _ _).pick (by (repeat (first | exact Pick.nil _ | exact Pick.tail _ | exact Out.here _ | apply Out.there | apply Pick.cons | apply Pick.drop))))).mono ?_; rintro e42 w42 ⟨rfl, rfl⟩)
        (try go_wp2_with fail)
        refine hKp.out _ _ ?_
        clear hKp Kp
        (try simp only [Act.put, aP, aZ, aS])
        by_cases hen : (en != 0) = true
        · refine pl_take (v := .bool true) rfl ?_ ?_
          · (go_simp; first | done | with_reducible rfl | rfl | omega | assumption | (simp; omega))
          (try simp only [Act.put, aP, aZ, aS])
          refine pl_done ?_
          refine hK21.out _ _ ?_
          (try clear hK21 K21)
          refine wp_cond_true rfl ?_
          refine wk_reg ?_
          refine pl_take (v := ?_) rfl ?_ ?_
          rotate_left
          · (go_simp; first | done | with_reducible rfl | rfl | omega | assumption | (simp; omega))
          (try simp only [Act.put, aP, aZ, aS])
          refine pl_done ?_
          refine hK20.out _ _ ?_
          (try clear hK20 K20)
          refine wk_seq (fun K22 hK22 => ?_)
          refine wk_reg ?_
          iterate 8 (refine pl_take (v := ?_) rfl ?_ ?_; rotate_left; (· (go_simp; first | done | with_reducible rfl | rfl | omega | assumption | (simp; omega))); (try simp only [Act.put, aP, aZ, aS]))
          refine pl_done ?_
          refine hK22.out _ _ ?_
          (try clear hK22 K22)
          refine wp_ret ?_
          ((try simp only [Exit.inBlock, Exit.then]); refine bodyPost_ret (results_tmp4 rfl _ _ _) rfl ?_)
          simp at hen
          first | exact hfin 0 (if_pos hen).symm _ ((by assumption : Sat w0 _ _).pick (by (repeat (first | exact Pick.nil _ | exact Pick.tail _ | exact Out.here _ | apply Out.there | apply Pick.cons | apply Pick.drop)))) | exact hfin 3 (by simp [hen]; omega) _ ((by assumption : Sat w0 _ _).pick (by (repeat (first | exact Pick.nil _ | exact Pick.tail _ | exact Out.here _ | apply Out.there | apply Pick.cons | apply Pick.drop))))
        · refine pl_take (v := .bool false) rfl ?_ ?_
          · (go_simp; first | done | with_reducible rfl | rfl | omega | assumption | (simp; omega))
          (try simp only [Act.put, aP, aZ, aS])
          refine pl_done ?_
          refine hK21.out _ _ ?_
          (try clear hK21 K21)
          refine wp_cond_false rfl ?_
          refine wp_skip ?_
          refine hK20.out _ _ ?_
          (try clear hK20 K20)
          refine wk_seq (fun K22 hK22 => ?_)
          refine wk_reg ?_
          iterate 8 (refine pl_take (v := ?_) rfl ?_ ?_; rotate_left; (· (go_simp; first | done | with_reducible rfl | rfl | omega | assumption | (simp; omega))); (try simp only [Act.put, aP, aZ, aS]))
          refine pl_done ?_
          refine hK22.out _ _ ?_
          (try clear hK22 K22)
          refine wp_ret ?_
          ((try simp only [Exit.inBlock, Exit.then]); refine bodyPost_ret (results_tmp4 rfl _ _ _) rfl ?_)
          simp at hen
          first | exact hfin 0 (if_pos hen).symm _ ((by assumption : Sat w0 _ _).pick (by (repeat (first | exact Pick.nil _ | exact Pick.tail _ | exact Out.here _ | apply Out.there | apply Pick.cons | apply Pick.drop)))) | exact hfin 3 (by simp [hen]; omega) _ ((by assumption : Sat w0 _ _).pick (by (repeat (first | exact Pick.nil _ | exact Pick.tail _ | exact Out.here _ | apply Out.there | apply Pick.cons | apply Pick.drop))))
    · rw [if_neg k3] at hC1
      have k3' : (k == 3) = false := by simpa using k3
      clear k3
      obtain ⟨en, he⟩ : ∃ o, rdEnd e1 r1 = o := ⟨_, rfl⟩
      rw [he] at hE1 hC1
      have HC := Hid.mk' hC1
      clear hC1 he
      have hfin : ∀ kd : Int, (kd = if en ≠ 0 then 0 else if 3 < k then 0 else k) → ∀ (w : World), Sat w0 w L → RetCmd w0 L C (.returned (.tuple #[.int .i64 kd, .int .i64 0, .int .i64 0, .slice none 0 0])) w := fun kd hkd w hs => by
        have := HC.out
        rw [← hkd] at this
        subst this
        exact ⟨0, 0, none, rfl, rfl, hnil hs⟩
      clear HC
      by_cases hx : 3 < k
      · go_enter Try.func38, Try.ntmps38
        refine wk_seq (fun K0 hK0 => ?_)
        refine wk_reg ?_
        iterate 4 (refine pl_take (v := ?_) rfl ?_ ?_; rotate_left; (· (go_simp; first | done | with_reducible rfl | rfl | omega | assumption | (simp; omega))); (try simp only [Act.put, aP, aZ, aS]))
        refine pl_done ?_
        refine hK0.out _ _ ?_
        (try clear hK0 K0)
        refine wk_seq (fun K1 hK1 => ?_)
        refine wk_reg ?_
        refine pl_take (v := ?_) rfl ?_ ?_
        rotate_left
        · (go_simp; first | done | with_reducible rfl | rfl | omega | assumption | (simp; omega))
        (try simp only [Act.put, aP, aZ, aS])
        refine pl_eff rfl (fun Kp hKp => ?_)
        go_simp
        (refine (new_spec b hl (by assumption) (by (repeat (first | with_reducible assumption | with_reducible exact Rd.own | with_reducible exact Rd.nil | with_reducible apply Rd.cons)))).mono ?_; rintro e8 w8 ⟨p8, buf, rfl, hs8⟩)
        (try go_wp2_with fail)
        refine hKp.out _ _ ?_
        clear hKp Kp
        (try simp only [Act.put, aP, aZ, aS])
        refine pl_take (v := ?_) rfl ?_ ?_
        rotate_left
        · (go_simp; first | done | with_reducible rfl | rfl | omega | assumption | (simp; omega))
        (try simp only [Act.put, aP, aZ, aS])
        refine pl_done ?_
        refine hK1.out _ _ ?_
        (try clear hK1 K1)
        refine wk_seq (fun K2 hK2 => ?_)
        refine wk_reg ?_
        refine pl_take (v := ?_) rfl ?_ ?_
        rotate_left
        · (go_simp; first | done | with_reducible rfl | rfl | omega | assumption | (simp; omega))
        (try simp only [Act.put, aP, aZ, aS])
        refine pl_eff rfl (fun Kp hKp => ?_)
        go_simp
        (refine (hN1 _ _ _ _ ((by assumption : Sat w0 _ _).pick (by (repeat (first | exact Pick.nil _ | exact Pick.tail _ | exact Out.here _ | apply Out.there | apply Pick.cons | apply Pick.drop))))).mono ?_; rintro e10 w10 ⟨rfl, hs10⟩; simp only at hs10 ⊢)
        (try go_wp2_with fail)
        refine hKp.out _ _ ?_
        clear hKp Kp
        (try simp only [Act.put, aP, aZ, aS])
        refine pl_take (v := ?_) rfl ?_ ?_
        rotate_left
        · (go_simp; first | done | with_reducible rfl | rfl | omega | assumption | (simp; omega))
        (try simp only [Act.put, aP, aZ, aS])
        refine pl_done ?_
        refine hK2.out _ _ ?_
        (try clear hK2 K2)
        refine wk_seq (fun K3 hK3 => ?_)
        refine wk_seq (fun K4 hK4 => ?_)
        refine wk_reg ?_
        refine pl_take (v := ?_) rfl ?_ ?_
        rotate_left
        · (go_simp; first | done | with_reducible rfl | rfl | omega | assumption | (simp; omega))
        (try simp only [Act.put, aP, aZ, aS])
        refine pl_done ?_
        refine hK4.out _ _ ?_
        (try clear hK4 K4)
        refine wp_block ?_
        refine wk_seq (fun K5 hK5 => ?_)
        refine wp_block ?_
        refine wk_seq (fun K6 hK6 => ?_)
        refine wp_block ?_
        refine wk_seq (fun K7 hK7 => ?_)
        refine wp_block ?_
        refine wk_seq (fun K8 hK8 => ?_)
        refine wk_seq (fun K9 hK9 => ?_)
        refine wk_seq (fun K10 hK10 => ?_)
        refine wk_reg ?_
        iterate 2 (refine pl_take (v := .bool false) rfl ?_ ?_; (· (go_simp; first | done | with_reducible rfl | rfl | omega | assumption | (simp; omega))); (try simp only [Act.put, aP, aZ, aS]))
        refine pl_done ?_
        refine hK10.out _ _ ?_
        (try clear hK10 K10)
        refine wp_cond_false rfl ?_
        refine wp_skip ?_
        refine hK9.out _ _ ?_
        (try clear hK9 K9)
        refine wk_seq (fun K11 hK11 => ?_)
        refine wk_reg ?_
        iterate 2 (refine pl_take (v := .bool false) rfl ?_ ?_; (· (go_simp; first | done | with_reducible rfl | rfl | omega | assumption | (simp; omega))); (try simp only [Act.put, aP, aZ, aS]))
        refine pl_done ?_
        refine hK11.out _ _ ?_
        (try clear hK11 K11)
        refine wp_cond_false rfl ?_
        refine wp_skip ?_
        refine hK8.out _ _ ?_
        (try clear hK8 K8)
        refine wp_exit ?_
        refine hK5.out _ _ ?_
        (try clear hK5 K5)
        refine wk_seq (fun K18 hK18 => ?_)
        refine wk_seq (fun K19 hK19 => ?_)
        refine wk_reg ?_
        refine pl_take (v := ?_) rfl ?_ ?_
        rotate_left
        · (go_simp; first | done | with_reducible rfl | rfl | omega | assumption | (simp; omega))
        (try simp only [Act.put, aP, aZ, aS])
        refine pl_take (v := .bool true) rfl ?_ ?_
        · (go_simp; first | done | with_reducible rfl | rfl | omega | assumption | (simp; omega))
        (try simp only [Act.put, aP, aZ, aS])
        refine pl_done ?_
        refine hK19.out _ _ ?_
        (try clear hK19 K19)
        refine wp_cond_true rfl ?_
        refine wk_reg ?_
        refine pl_take (v := ?_) rfl ?_ ?_
        rotate_left
        · (go_simp; first | done | with_reducible rfl | rfl | omega | assumption | (simp; omega))
        (try simp only [Act.put, aP, aZ, aS])
        refine pl_done ?_
        refine hK18.out _ _ ?_
        (try clear hK18 K18)
        refine wp_exit ?_
        refine hK3.out _ _ ?_
        (try clear hK3 K3)
        refine wk_seq (fun K20 hK20 => ?_)
        refine wk_seq (fun K21 hK21 => ?_)
        refine wk_reg ?_
        refine pl_take (v := ?_) rfl ?_ ?_
        rotate_left
        · (go_simp; first | done | with_reducible rfl | rfl | omega | assumption | (simp; omega))
        (try simp only [Act.put, aP, aZ, aS])
        refine pl_eff rfl (fun Kp hKp => ?_)
        go_simp
        (refine (hE1 _ _ _ _ ((by assumption : Sat w0 _ _).pick (by (repeat (first | exact Pick.nil _ | exact Pick.tail _ | exact Out.here _ | apply Out.there | apply Pick.cons | apply Pick.drop))))).mono ?_; rintro e42 w42 ⟨rfl, rfl⟩)
        (try go_wp2_with fail)
        refine hKp.out _ _ ?_
        clear hKp Kp
        (try simp only [Act.put, aP, aZ, aS])
        by_cases hen : (en != 0) = true
        · refine pl_take (v := .bool true) rfl ?_ ?_
          · (go_simp; first | done | with_reducible rfl | rfl | omega | assumption | (simp; omega))
          (try simp only [Act.put, aP, aZ, aS])
          refine pl_done ?_
          refine hK21.out _ _ ?_
          (try clear hK21 K21)
          refine wp_cond_true rfl ?_
          refine wk_reg ?_
          refine pl_take (v := ?_) rfl ?_ ?_
          rotate_left
          · (go_simp; first | done | with_reducible rfl | rfl | omega | assumption | (simp; omega))
          (try simp only [Act.put, aP, aZ, aS])
          refine pl_done ?_
          refine hK20.out _ _ ?_
          (try clear hK20 K20)
          refine wk_seq (fun K22 hK22 => ?_)
          refine wk_reg ?_
          iterate 8 (refine pl_take (v := ?_) rfl ?_ ?_; rotate_left; (· (go_simp; first | done | with_reducible rfl | rfl | omega | assumption | (simp; omega))); (try simp only [Act.put, aP, aZ, aS]))
          refine pl_done ?_
          refine hK22.out _ _ ?_
          (try clear hK22 K22)
          refine wp_ret ?_
          ((try simp only [Exit.inBlock, Exit.then]); refine bodyPost_ret (results_tmp4 rfl _ _ _) rfl ?_)
          simp at hen
          exact hfin 0 (by simp [hx]) _ ((by assumption : Sat w0 _ _).pick (by (repeat (first | exact Pick.nil _ | exact Pick.tail _ | exact Out.here _ | apply Out.there | apply Pick.cons | apply Pick.drop))))
        · refine pl_take (v := .bool false) rfl ?_ ?_
          · (go_simp; first | done | with_reducible rfl | rfl | omega | assumption | (simp; omega))
          (try simp only [Act.put, aP, aZ, aS])
          refine pl_done ?_
          refine hK21.out _ _ ?_
          (try clear hK21 K21)
          refine wp_cond_false rfl ?_
          refine wp_skip ?_
          refine hK20.out _ _ ?_
          (try clear hK20 K20)
          refine wk_seq (fun K22 hK22 => ?_)
          refine wk_reg ?_
          iterate 8 (refine pl_take (v := ?_) rfl ?_ ?_; rotate_left; (· (go_simp; first | done | with_reducible rfl | rfl | omega | assumption | (simp; omega))); (try simp only [Act.put, aP, aZ, aS]))
          refine pl_done ?_
          refine hK22.out _ _ ?_
          (try clear hK22 K22)
          refine wp_ret ?_
          ((try simp only [Exit.inBlock, Exit.then]); refine bodyPost_ret (results_tmp4 rfl _ _ _) rfl ?_)
          simp at hen
          exact hfin 0 (by simp [hx]) _ ((by assumption : Sat w0 _ _).pick (by (repeat (first | exact Pick.nil _ | exact Pick.tail _ | exact Out.here _ | apply Out.there | apply Pick.cons | apply Pick.drop))))
      · go_enter Try.func38, Try.ntmps38
        refine wk_seq (fun K0 hK0 => ?_)
        refine wk_reg ?_
        iterate 4 (refine pl_take (v := ?_) rfl ?_ ?_; rotate_left; (· (go_simp; first | done | with_reducible rfl | rfl | omega | assumption | (simp; omega))); (try simp only [Act.put, aP, aZ, aS]))
        refine pl_done ?_
        refine hK0.out _ _ ?_
        (try clear hK0 K0)
        refine wk_seq (fun K1 hK1 => ?_)
        refine wk_reg ?_
        refine pl_take (v := ?_) rfl ?_ ?_
        rotate_left
        · (go_simp; first | done | with_reducible rfl | rfl | omega | assumption | (simp; omega))
        (try simp only [Act.put, aP, aZ, aS])
        refine pl_eff rfl (fun Kp hKp => ?_)
        go_simp
        (refine (new_spec b hl (by assumption) (by (repeat (first | with_reducible assumption | with_reducible exact Rd.own | with_reducible exact Rd.nil | with_reducible apply Rd.cons)))).mono ?_; rintro e8 w8 ⟨p8, buf, rfl, hs8⟩)
        (try go_wp2_with fail)
        refine hKp.out _ _ ?_
        clear hKp Kp
        (try simp only [Act.put, aP, aZ, aS])
        refine pl_take (v := ?_) rfl ?_ ?_
        rotate_left
        · (go_simp; first | done | with_reducible rfl | rfl | omega | assumption | (simp; omega))
        (try simp only [Act.put, aP, aZ, aS])
        refine pl_done ?_
        refine hK1.out _ _ ?_
        (try clear hK1 K1)
        refine wk_seq (fun K2 hK2 => ?_)
        refine wk_reg ?_
        refine pl_take (v := ?_) rfl ?_ ?_
        rotate_left
        · (go_simp; first | done | with_reducible rfl | rfl | omega | assumption | (simp; omega))
        (try simp only [Act.put, aP, aZ, aS])
        refine pl_eff rfl (fun Kp hKp => ?_)
        go_simp
        (refine (hN1 _ _ _ _ ((by assumption : Sat w0 _ _).pick (by (repeat (first | exact Pick.nil _ | exact Pick.tail _ | exact Out.here _ | apply Out.there | apply Pick.cons | apply Pick.drop))))).mono ?_; rintro e10 w10 ⟨rfl, hs10⟩; simp only at hs10 ⊢)
        (try go_wp2_with fail)
        refine hKp.out _ _ ?_
        clear hKp Kp
        (try simp only [Act.put, aP, aZ, aS])
        refine pl_take (v := ?_) rfl ?_ ?_
        rotate_left
        · (go_simp; first | done | with_reducible rfl | rfl | omega | assumption | (simp; omega))
        (try simp only [Act.put, aP, aZ, aS])
        refine pl_done ?_
        refine hK2.out _ _ ?_
        (try clear hK2 K2)
        refine wk_seq (fun K3 hK3 => ?_)
        refine wk_seq (fun K4 hK4 => ?_)
        refine wk_reg ?_
        refine pl_take (v := ?_) rfl ?_ ?_
        rotate_left
        · (go_simp; first | done | with_reducible rfl | rfl | omega | assumption | (simp; omega))
        (try simp only [Act.put, aP, aZ, aS])
        refine pl_done ?_
        refine hK4.out _ _ ?_
        (try clear hK4 K4)
        refine wp_block ?_
        refine wk_seq (fun K5 hK5 => ?_)
        refine wp_block ?_
        refine wk_seq (fun K6 hK6 => ?_)
        refine wp_block ?_
        refine wk_seq (fun K7 hK7 => ?_)
        refine wp_block ?_
        refine wk_seq (fun K8 hK8 => ?_)
        refine wk_seq (fun K9 hK9 => ?_)
        refine wk_seq (fun K10 hK10 => ?_)
        refine wk_reg ?_
        iterate 2 (refine pl_take (v := .bool false) rfl ?_ ?_; (· (go_simp; first | done | with_reducible rfl | rfl | omega | assumption | (simp; omega))); (try simp only [Act.put, aP, aZ, aS]))
        refine pl_done ?_
        refine hK10.out _ _ ?_
        (try clear hK10 K10)
        refine wp_cond_false rfl ?_
        refine wp_skip ?_
        refine hK9.out _ _ ?_
        (try clear hK9 K9)
        refine wk_seq (fun K11 hK11 => ?_)
        refine wk_reg ?_
        iterate 2 (refine pl_take (v := .bool false) rfl ?_ ?_; (· (go_simp; first | done | with_reducible rfl | rfl | omega | assumption | (simp; omega))); (try simp only [Act.put, aP, aZ, aS]))
        refine pl_done ?_
        refine hK11.out _ _ ?_
        (try clear hK11 K11)
        refine wp_cond_false rfl ?_
        refine wp_skip ?_
        refine hK8.out _ _ ?_
        (try clear hK8 K8)
        refine wp_exit ?_
        refine hK5.out _ _ ?_
        (try clear hK5 K5)
        refine wk_seq (fun K18 hK18 => ?_)
        refine wk_seq (fun K19 hK19 => ?_)
        refine wk_reg ?_
        refine pl_take (v := ?_) rfl ?_ ?_
        rotate_left
        · (go_simp; first | done | with_reducible rfl | rfl | omega | assumption | (simp; omega))
        (try simp only [Act.put, aP, aZ, aS])
        refine pl_take (v := .bool false) rfl ?_ ?_
        · (go_simp; first | done | with_reducible rfl | rfl | omega | assumption | (simp; omega))
        (try simp only [Act.put, aP, aZ, aS])
        refine pl_done ?_
        refine hK19.out _ _ ?_
        (try clear hK19 K19)
        refine wp_cond_false rfl ?_
        refine wp_skip ?_
        refine hK18.out _ _ ?_
        (try clear hK18 K18)
        refine wp_exit ?_
        refine hK3.out _ _ ?_
        (try clear hK3 K3)
        refine wk_seq (fun K20 hK20 => ?_)
        refine wk_seq (fun K21 hK21 => ?_)
        refine wk_reg ?_
        refine pl_take (v := ?_) rfl ?_ ?_
        rotate_left
        · (go_simp; first | done | with_reducible rfl | rfl | omega | assumption | (simp; omega))
        (try simp only [Act.put, aP, aZ, aS])
        refine pl_eff rfl (fun Kp hKp => ?_)
        go_simp
        (refine (hE1 _ _ _ _ ((by assumption : Sat w0 _ _).pick (by (repeat (first | exact Pick.nil _ | exact Pick.tail _ | exact Out.here _ | apply Out.there | apply Pick.cons | apply Pick.drop))))).mono ?_; rintro e42 w42 ⟨rfl, rfl⟩)
        (try go_wp2_with fail)
        refine hKp.out _ _ ?_
        clear hKp Kp
        (try simp only [Act.put, aP, aZ, aS])
        by_cases hen : (en != 0) = true
        · refine pl_take (v := .bool true) rfl ?_ ?_
          · (go_simp; first | done | with_reducible rfl | rfl | omega | assumption | (simp; omega))
          (try simp only [Act.put, aP, aZ, aS])
          refine pl_done ?_
          refine hK21.out _ _ ?_
          (try clear hK21 K21)
          refine wp_cond_true rfl ?_
          refine wk_reg ?_
          refine pl_take (v := ?_) rfl ?_ ?_
          rotate_left
          · (go_simp; first | done | with_reducible rfl | rfl | omega | assumption | (simp; omega))
          (try simp only [Act.put, aP, aZ, aS])
          refine pl_done ?_
          refine hK20.out _ _ ?_
          (try clear hK20 K20)
          refine wk_seq (fun K22 hK22 => ?_)
          refine wk_reg ?_
          iterate 8 (refine pl_take (v := ?_) rfl ?_ ?_; rotate_left; (· (go_simp; first | done | with_reducible rfl | rfl | omega | assumption | (simp; omega))); (try simp only [Act.put, aP, aZ, aS]))
          refine pl_done ?_
          refine hK22.out _ _ ?_
          (try clear hK22 K22)
          refine wp_ret ?_
          ((try simp only [Exit.inBlock, Exit.then]); refine bodyPost_ret (results_tmp4 rfl _ _ _) rfl ?_)
          simp at hen
          first | exact hfin 0 (if_pos hen).symm _ ((by assumption : Sat w0 _ _).pick (by (repeat (first | exact Pick.nil _ | exact Pick.tail _ | exact Out.here _ | apply Out.there | apply Pick.cons | apply Pick.drop)))) | exact hfin k (by simp [hen]; omega) _ ((by assumption : Sat w0 _ _).pick (by (repeat (first | exact Pick.nil _ | exact Pick.tail _ | exact Out.here _ | apply Out.there | apply Pick.cons | apply Pick.drop))))
        · refine pl_take (v := .bool false) rfl ?_ ?_
          · (go_simp; first | done | with_reducible rfl | rfl | omega | assumption | (simp; omega))
          (try simp only [Act.put, aP, aZ, aS])
          refine pl_done ?_
          refine hK21.out _ _ ?_
          (try clear hK21 K21)
          refine wp_cond_false rfl ?_
          refine wp_skip ?_
          refine hK20.out _ _ ?_
          (try clear hK20 K20)
          refine wk_seq (fun K22 hK22 => ?_)
          refine wk_reg ?_
          iterate 8 (refine pl_take (v := ?_) rfl ?_ ?_; rotate_left; (· (go_simp; first | done | with_reducible rfl | rfl | omega | assumption | (simp; omega))); (try simp only [Act.put, aP, aZ, aS]))
          refine pl_done ?_
          refine hK22.out _ _ ?_
          (try clear hK22 K22)
          refine wp_ret ?_
          ((try simp only [Exit.inBlock, Exit.then]); refine bodyPost_ret (results_tmp4 rfl _ _ _) rfl ?_)
          simp at hen
          first | exact hfin 0 (if_pos hen).symm _ ((by assumption : Sat w0 _ _).pick (by (repeat (first | exact Pick.nil _ | exact Pick.tail _ | exact Out.here _ | apply Out.there | apply Pick.cons | apply Pick.drop)))) | exact hfin k (by simp [hen]; omega) _ ((by assumption : Sat w0 _ _).pick (by (repeat (first | exact Pick.nil _ | exact Pick.tail _ | exact Out.here _ | apply Out.there | apply Pick.cons | apply Pick.drop))))
end Go.Proofs.Ytdlimjcidblneaa
