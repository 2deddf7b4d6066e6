/-
  Lists of servers: Right, Count and Beside of the program.
-/
import Derived.Test.YtcpcdhlfdabbnaaW21
import Derived.Test.YtcpcdhlfdabbnaaW8
import Derived.Deep.LoopGhost
namespace Go.Proofs.Ytcpcdhlfdabbnaa
open Go Go.RowKit Sl Go.Shelf
set_option maxHeartbeats 20000000
set_option maxRecDepth 8000

def setM (l : List Int) : List (Int × Value) := l.map fun x => (x, .bool true)

theorem setM_put {l : List Int} {k : Nat} {x : Int} (hn : Inc l) (hx : l[k]? = some x) : mput (setM (l.take k)) x (.bool true) = setM (l.take (k + 1)) := by
  rw [mput_none, take_snoc hx]
  · simp [setM]
  · intro p hp e
    obtain ⟨y, hy, rfl⟩ := List.mem_map.1 hp
    simp only at e
    subst e
    obtain ⟨j, hj, hjk⟩ := List.mem_take_iff_getElem.1 hy
    have h1 := (List.getElem?_eq_some_iff.1 hx)
    have := (List.pairwise_iff_getElem.1 hn) j k (by omega) h1.1 (by omega)
    rw [hjk, h1.2] at this
    omega

theorem set_spec {w0 w : World} {L : List HP} {A : Option Addr} {c n : Nat} (l : List Int) (hn : Hid (n = l.length)) (hl : n ≤ 1048576) (hi : Inc l) (h64 : ∀ x ∈ l, In64 x) (hs : Sat w0 w L) (hR : Rd w0 L A n 1 (I8 l)) :
    Calls Try.prog 93 #[.slice A n c] w (fun e w' => ∃ b, e = .returned (.map (some b)) ∧ Sat w0 w' (mp (Value.int .i64) In64 b (setM l) :: L)) := by
  go_enter Try.func93, Try.ntmps93
  refine wk_seq (fun K0 hK0 => ?_)
  refine wk_reg ?_
  refine pl_take (v := ?_) rfl ?_ ?_
  rotate_left
  · (go_simp; first | done | with_reducible rfl | rfl | omega | assumption | (simp; omega))
  (try simp only [Act.put, aP, aZ, aS])
  refine pl_done ?_
  refine hK0.out _ _ ?_
  (try clear hK0 K0)
  refine wk_seq (fun K1 hK1 => ?_)
  refine wk_reg ?_
  refine pl_eff rfl (fun Kp hKp => ?_)
  ((with_reducible apply st_makeMap (Value.int .i64) In64); assumption; intro b6 w6 hs6)
  refine hKp.out _ _ ?_
  clear hKp Kp
  (try simp only [Act.put, aP, aZ, aS])
  refine pl_take (v := ?_) rfl ?_ ?_
  rotate_left
  · (go_simp; first | done | with_reducible rfl | rfl | omega | assumption | (simp; omega))
  (try simp only [Act.put, aP, aZ, aS])
  refine pl_done ?_
  refine hK1.out _ _ ?_
  (try clear hK1 K1)
  refine wk_seq (fun K2 hK2 => ?_)
  refine wk_seq (fun K3 hK3 => ?_)
  refine wk_reg ?_
  iterate 3 (refine pl_take (v := ?_) rfl ?_ ?_; rotate_left; (· (go_simp; first | done | with_reducible rfl | rfl | omega | assumption | (simp; omega))); (try simp only [Act.put, aP, aZ, aS]))
  refine pl_done ?_
  refine hK3.out _ _ ?_
  (try clear hK3 K3)
  refine wp_block ?_
  -- at a loop
  go_loopw [9] (fun s9 wr => ∃ (k : Nat), s9 = .int .i64 k ∧ k ≤ n ∧ Sat w0 wr (mp (Value.int .i64) In64 b6 (setM (l.take k)) :: L)) (fun s9 _ => n - (intOf s9).toNat)
  case atStart => exact ⟨0, rfl, Nat.zero_le _, by simpa [setM] using (by assumption : Sat w0 _ (mp (Value.int .i64) In64 b6 [] :: L))⟩
  case round =>
    obtain ⟨k, rfl, hk, hsC⟩ := hrel
    by_cases hlt : k < n
    · obtain ⟨x, hx⟩ : ∃ x, l[k]? = some x := ⟨l[k]'(by have := hn.out; omega), List.getElem?_eq_getElem _⟩
      obtain ⟨ga, oa, rfl⟩ := hR.some_of hs (by omega)
      have ca := hR.elt (I8_at l k x hx)
      have hx64 := h64 x (List.mem_of_getElem? hx)
      have hput := setM_put hi hx
      have i0 : (0 : Int) ≤ (k : Int) := by omega
      have i1 : (k : Int) < (n : Int) := by omega
      have hwk : IntKind.i64.wrap ((k : Int) + 1) = (k : Int) + 1 := IntWalk.i64_in _ (by omega)
      clear hx
      refine wk_seq (fun K4 hK4 => ?_)
      refine wk_reg ?_
      refine pl_take (v := .bool true) rfl ?_ ?_
      · (go_simp; first | done | with_reducible rfl | rfl | omega | assumption | (simp; omega))
      (try simp only [Act.put, aP, aZ, aS])
      refine pl_done ?_
      refine hK4.out _ _ ?_
      (try clear hK4 K4)
      refine wk_seq (fun K5 hK5 => ?_)
      refine wp_cond_true rfl ?_
      refine wp_skip ?_
      refine hK5.out _ _ ?_
      (try clear hK5 K5)
      refine wk_seq (fun K6 hK6 => ?_)
      refine wp_block ?_
      refine wk_seq (fun K7 hK7 => ?_)
      refine wk_reg ?_
      iterate 3 (refine pl_take (v := ?_) rfl ?_ ?_; rotate_left; (· (first | ((with_reducible apply yl_load); assumption; rfl; (repeat (first | with_reducible assumption | ((with_reducible apply Cl.own); exact rfl) | ((with_reducible apply Cl.blkL); exact rfl) | with_reducible apply Cl.cons)); rfl) | (go_simp; first | done | with_reducible rfl | rfl | omega | assumption | (simp; omega)))); (try simp only [Act.put, aP, aZ, aS]))
      refine pl_done ?_
      refine hK7.out _ _ ?_
      (try clear hK7 K7)
      refine wk_reg ?_
      iterate 2 (refine pl_take (v := ?_) rfl ?_ ?_; rotate_left; (· (go_simp; first | done | with_reducible rfl | rfl | omega | assumption | (simp; omega))); (try simp only [Act.put, aP, aZ, aS]))
      refine pl_eff rfl (fun Kp hKp => ?_)
      ((with_reducible apply st_mapUpdate (xk := x) ktInt); assumption; rfl; rfl; (go_simp; rfl); (repeat (first | with_reducible exact Out.here _ | apply Out.there)); exact hx64; intro wr5_2 hsr5_2; rw [hput] at hsr5_2)
      refine hKp.out _ _ ?_
      clear hKp Kp
      (try dsimp only [Act.put])
      refine pl_done ?_
      refine hK6.out _ _ ?_
      (try clear hK6 K6)
      refine wk_reg ?_
      iterate 2 (refine pl_take (v := ?_) rfl ?_ ?_; rotate_left; (· (go_simp; first | done | with_reducible rfl | rfl | omega | assumption | (simp; omega))); (try simp only [Act.put, aP, aZ, aS]))
      refine pl_done ?_
      (try dsimp only [Exit.inBlock, Exit.then])
      go_roundw
      case rel => exact ⟨k + 1, by go_num, by omega, (by assumption : Sat w0 _ _).pick (by (repeat (first | exact Pick.nil _ | exact Pick.tail _ | exact Out.here _ | apply Out.there | apply Pick.cons | apply Pick.drop)))⟩
      case measure => simp [intOf]; omega
    · obtain rfl : k = n := by omega
      rw [List.take_of_length_le (by have := hn.out; omega)] at hsC
      refine wk_seq (fun K4 hK4 => ?_)
      refine wk_reg ?_
      refine pl_take (v := .bool false) rfl ?_ ?_
      · (go_simp; first | done | with_reducible rfl | rfl | omega | assumption | (simp; omega))
      (try simp only [Act.put, aP, aZ, aS])
      refine pl_done ?_
      refine hK4.out _ _ ?_
      (try clear hK4 K4)
      refine wk_seq (fun K5 hK5 => ?_)
      refine wp_cond_false rfl ?_
      refine wp_exit ?_
      refine hK2.out _ _ ?_
      (try clear hK2 K2)
      refine wk_seq (fun K8 hK8 => ?_)
      refine wk_reg ?_
      iterate 2 (refine pl_take (v := ?_) rfl ?_ ?_; rotate_left; (· (go_simp; first | done | with_reducible rfl | rfl | omega | assumption | (simp; omega))); (try simp only [Act.put, aP, aZ, aS]))
      refine pl_done ?_
      refine hK8.out _ _ ?_
      (try clear hK8 K8)
      refine wp_ret ?_
      go_ret
      exact ⟨_, rfl, (by assumption : Sat w0 _ _).pick (by (repeat (first | exact Pick.nil _ | exact Pick.tail _ | exact Out.here _ | apply Out.there | apply Pick.cons | apply Pick.drop)))⟩

theorem setM_get {l : List Int} (hi : Inc l) (x : Int) : mget (setM l) x = if x ∈ l then some (.bool true) else none := by
  split
  · rename_i h
    refine mget_some ?_ (List.mem_map.2 ⟨x, h, rfl⟩)
    have : (setM l).map (·.1) = l := by unfold setM; rw [List.map_map]; exact List.map_id' l
    rw [this]
    exact hi.imp fun h => by omega
  · rename_i h
    exact mget_none fun p hp e => by obtain ⟨y, hy, rfl⟩ := List.mem_map.1 hp; exact h (e ▸ hy)

theorem setM_del (l : List Int) (x : Int) : mdel (setM l) x = setM (l.filter fun y => decide (y ≠ x)) := by
  unfold mdel setM
  rw [List.filter_map]
  rfl

theorem mem_setM {l : List Int} {x : Int} {v : Value} (h : (x, v) ∈ setM l) : x ∈ l ∧ v = .bool true := by
  obtain ⟨y, hy, e⟩ := List.mem_map.1 h
  simp only [Prod.mk.injEq] at e
  exact ⟨e.1 ▸ hy, e.2.symm⟩

theorem len_less {l : List Int} {x : Int} (hi : Inc l) (h : x ∈ l) (p : Int → Bool) : ((l.filter fun y => decide (y ≠ x)).filter p).length + (if p x then 1 else 0) = (l.filter p).length := by
  induction l with
  | nil => cases h
  | cons y l ih =>
    obtain ⟨h1, h2⟩ := List.pairwise_cons.1 hi
    rcases List.mem_cons.1 h with rfl | h
    · have e : (x :: l).filter (fun y => decide (y ≠ x)) = l := by
        rw [List.filter_cons_of_neg (by simp)]
        exact List.filter_eq_self.2 fun z hz => by have := h1 z hz; simp; omega
      rw [e]
      cases hp : p x
      · rw [List.filter_cons_of_neg (by simp [hp])]; simp
      · rw [List.filter_cons_of_pos hp]; simp
    · have hne : y ≠ x := by have := h1 x h; omega
      rw [List.filter_cons_of_pos (by simpa using hne)]
      have := ih h2 h
      cases hp : p y
      · rw [List.filter_cons_of_neg (by simp [hp]), List.filter_cons_of_neg (by simp [hp])]; exact this
      · rw [List.filter_cons_of_pos hp, List.filter_cons_of_pos hp, List.length_cons, List.length_cons]; omega

theorem count_step {ls b : List Int} {k C g : Nat} {x : Int} (h : Inc ls ∧ (∀ x ∈ ls, In64 x) ∧ k + (ls.filter fun x => decide (x ∈ b)).length = C) (hx : x ∈ ls) (hg : ls.length ≤ g) :
    (ls.filter fun y => decide (y ≠ x)).length ≤ g - 1 ∧ Inc (ls.filter fun y => decide (y ≠ x)) ∧ (∀ y ∈ ls.filter fun y => decide (y ≠ x), In64 y) ∧
      (x ∈ b → k + 1 + ((ls.filter fun y => decide (y ≠ x)).filter fun x => decide (x ∈ b)).length = C) ∧ (¬ x ∈ b → k + ((ls.filter fun y => decide (y ≠ x)).filter fun x => decide (x ∈ b)).length = C) := by
  have h1 := len_less h.1 hx (fun x => decide (x ∈ b))
  have h2 := len_less h.1 hx (fun _ => true)
  have e : ∀ l : List Int, l.filter (fun _ => true) = l := fun l => List.filter_eq_self.2 fun _ _ => rfl
  rw [e, e, if_pos rfl] at h2
  have h3 := h.2.2
  refine ⟨by omega, inc_filter h.1 _, fun y hy => h.2.1 y (List.mem_filter.1 hy).1, fun hb => ?_, fun hb => ?_⟩
  · rw [if_pos (by simpa using hb)] at h1; omega
  · rw [if_neg (by simpa using hb)] at h1; omega

theorem count_spec {w0 w : World} {L : List HP} {A B : Option Addr} {c d n m : Nat} (a b : List Int) (hn : Hid (n = a.length)) (hm : Hid (m = b.length)) (hl : n ≤ 1048576) (hl' : m ≤ 1048576) (ha : Inc a) (hb : Inc b) (ha64 : ∀ x ∈ a, In64 x) (hb64 : ∀ x ∈ b, In64 x) (hs : Sat w0 w L)
    (hR : Rd w0 L A n 1 (I8 a)) (hR' : Rd w0 L B m 1 (I8 b)) :
    Calls Try.prog 75 #[.slice A n c, .slice B m d] w (fun e w' => e = .returned (.int .i64 (cnt a b : Nat)) ∧ Sat w0 w' L) := by
  have hcl : cnt a b ≤ 1048576 := by have := List.length_filter_le (fun x => decide (x ∈ b)) a; unfold cnt; have := hn.out; omega
  obtain ⟨C, hC⟩ : ∃ C, cnt a b = C := ⟨_, rfl⟩
  rw [hC] at hcl ⊢
  have HC := Hid.mk' hC
  clear hC
  go_enter Try.func75, Try.ntmps75
  refine wk_seq (fun K0 hK0 => ?_)
  refine wk_reg ?_
  refine pl_take (v := ?_) rfl ?_ ?_
  rotate_left
  · (go_simp; first | done | with_reducible rfl | rfl | omega | assumption | (simp; omega))
  (try simp only [Act.put, aP, aZ, aS])
  refine pl_done ?_
  refine hK0.out _ _ ?_
  (try clear hK0 K0)
  refine wk_seq (fun K1 hK1 => ?_)
  refine wk_reg ?_
  refine pl_take (v := ?_) rfl ?_ ?_
  rotate_left
  · (go_simp; first | done | with_reducible rfl | rfl | omega | assumption | (simp; omega))
  (try simp only [Act.put, aP, aZ, aS])
  refine pl_eff rfl (fun Kp hKp => ?_)
  go_simp
  (refine (set_spec b hm hl' hb hb64 (by assumption) (by (repeat (first | with_reducible assumption | with_reducible exact Rd.own | with_reducible exact Rd.nil | with_reducible apply Rd.cons)))).mono ?_; rintro e9 w9 ⟨b9, rfl, hs9⟩)
  (try go_wp2_with fail)
  refine hKp.out _ _ ?_
  clear hKp Kp
  (try simp only [Act.put, aP, aZ, aS])
  iterate 2 (refine pl_take (v := ?_) rfl ?_ ?_; rotate_left; (· (go_simp; first | done | with_reducible rfl | rfl | omega | assumption | (simp; omega))); (try simp only [Act.put, aP, aZ, aS]))
  refine pl_done ?_
  refine hK1.out _ _ ?_
  (try clear hK1 K1)
  refine wk_seq (fun K2 hK2 => ?_)
  refine wk_seq (fun K3 hK3 => ?_)
  refine wk_reg ?_
  refine pl_take (v := ?_) rfl ?_ ?_
  rotate_left
  · (go_simp; first | done | with_reducible rfl | rfl | omega | assumption | (simp; omega))
  (try simp only [Act.put, aP, aZ, aS])
  refine pl_eff rfl (fun Kp hKp => ?_)
  go_simp
  (refine (set_spec a hn hl ha ha64 (by assumption) (by (repeat (first | with_reducible assumption | with_reducible exact Rd.own | with_reducible exact Rd.nil | with_reducible apply Rd.cons)))).mono ?_; rintro e11 w11 ⟨b11, rfl, hs11⟩)
  (try go_wp2_with fail)
  refine hKp.out _ _ ?_
  clear hKp Kp
  (try simp only [Act.put, aP, aZ, aS])
  refine pl_eff rfl (fun Kp hKp => ?_)
  ((with_reducible apply st_range); assumption; rfl; (repeat (first | with_reducible exact Out.here _ | apply Out.there)); intro b12 w12 hs12)
  refine hKp.out _ _ ?_
  clear hKp Kp
  (try simp only [Act.put, aP, aZ, aS])
  refine pl_done ?_
  refine hK3.out _ _ ?_
  (try clear hK3 K3)
  refine wp_block ?_
  -- at a loop
  go_loopg [5] (a.length) (fun g s5 wr => ∃ (k : Nat) (ls : List Int) (cur : Option (Int × Value)), s5 = .int .i64 k ∧ ls.length ≤ g ∧ Hid (Inc ls ∧ (∀ x ∈ ls, In64 x) ∧ k + (ls.filter fun x => decide (x ∈ b)).length = C) ∧ Sat w0 wr (mpi (Value.int .i64) In64 b11 b12 (setM a) (setM ls) cur :: mp (Value.int .i64) In64 b9 (setM b) :: L))
  case atStart => exact ⟨0, a, none, rfl, Nat.le_refl _, ⟨ha, ha64, by rw [← HC.out, Nat.zero_add]; rfl⟩, (by assumption : Sat w0 _ _).pick (by (repeat (first | exact Pick.nil _ | exact Pick.tail _ | exact Out.here _ | apply Out.there | apply Pick.cons | apply Pick.drop)))⟩
  case round =>
    obtain ⟨k, ls, cur, rfl, hg, Hls, hsC⟩ := hrel
    by_cases hz : ls = []
    · subst hz
      obtain rfl : k = C := by have := Hls.out.2.2; simpa using this
      rw [show setM [] = ([] : List (Int × Value)) from rfl] at hsC
      refine wk_seq (fun K4 hK4 => ?_)
      refine wk_reg ?_
      refine pl_eff rfl (fun Kp hKp => ?_)
      ((with_reducible apply st_next_done (cur := cur)); assumption; rfl; (repeat (first | with_reducible exact Out.here _ | apply Out.there)))
      refine hKp.out _ _ ?_
      clear hKp Kp
      (try simp only [Act.put, aP, aZ, aS])
      refine pl_take (v := .bool false) rfl ?_ ?_
      · (go_simp; first | done | with_reducible rfl | rfl | omega | assumption | (simp; omega))
      (try simp only [Act.put, aP, aZ, aS])
      refine pl_done ?_
      refine hK4.out _ _ ?_
      (try clear hK4 K4)
      refine wk_seq (fun K5 hK5 => ?_)
      refine wp_cond_false rfl ?_
      refine wp_exit ?_
      refine hK2.out _ _ ?_
      (try clear hK2 K2)
      refine wk_seq (fun K8 hK8 => ?_)
      refine wk_reg ?_
      iterate 2 (refine pl_take (v := ?_) rfl ?_ ?_; rotate_left; (· (go_simp; first | done | with_reducible rfl | rfl | omega | assumption | (simp; omega))); (try simp only [Act.put, aP, aZ, aS]))
      refine pl_done ?_
      refine hK8.out _ _ ?_
      (try clear hK8 K8)
      refine wp_ret ?_
      go_ret
      exact ⟨rfl, ((by assumption : Sat w0 _ (mpi _ _ _ _ _ _ _ :: _)).tail).pick (by (repeat (first | exact Pick.nil _ | exact Pick.tail _ | exact Out.here _ | apply Out.there | apply Pick.cons | apply Pick.drop)))⟩
    · have hne : setM ls ≠ [] := by intro e; apply hz; simpa [setM] using e
      have hlen : 0 < ls.length := List.length_pos_iff.2 hz
      have hck : k ≤ C := by have := Hls.out.2.2; omega
      have hwk : IntKind.i64.wrap ((k : Int) + 1) = (k : Int) + 1 := IntWalk.i64_in _ (by omega)
      clear hz
      refine wk_seq (fun K4 hK4 => ?_)
      refine wk_reg ?_
      refine pl_eff rfl (fun Kp hKp => ?_)
      ((with_reducible apply st_next_more ktInt); assumption; rfl; (repeat (first | with_reducible exact Out.here _ | apply Out.there)); exact hne; intro x13 v13 w13 hm13 hml13 hs13; obtain ⟨hx13, rfl⟩ := mem_setM hm13; rw [setM_del] at hs13; have hx64 := Hls.out.2.1 x13 hx13; have cs := count_step Hls.out hx13 hg; clear hm13 hml13)
      refine hKp.out _ _ ?_
      clear hKp Kp
      (try simp only [Act.put, aP, aZ, aS])
      refine pl_take (v := .bool true) rfl ?_ ?_
      · (go_simp; first | done | with_reducible rfl | rfl | omega | assumption | (simp; omega))
      (try simp only [Act.put, aP, aZ, aS])
      refine pl_done ?_
      refine hK4.out _ _ ?_
      (try clear hK4 K4)
      refine wk_seq (fun K5 hK5 => ?_)
      refine wp_cond_true rfl ?_
      refine wp_skip ?_
      refine hK5.out _ _ ?_
      (try clear hK5 K5)
      refine wp_block ?_
      refine wk_seq (fun K6 hK6 => ?_)
      refine wk_reg ?_
      refine pl_take (v := (.tuple #[.int .i64 x13, .bool true])) rfl ?_ ?_
      · ((with_reducible apply yl_entry); assumption; rfl; (repeat (first | with_reducible exact Out.here _ | apply Out.there)))
      (try simp only [Act.put, aP, aZ, aS])
      iterate 2 (refine pl_take (v := ?_) rfl ?_ ?_; rotate_left; (· (go_simp; first | done | with_reducible rfl | rfl | omega | assumption | (simp; omega))); (try simp only [Act.put, aP, aZ, aS]))
      refine pl_done ?_
      refine hK6.out _ _ ?_
      (try clear hK6 K6)
      refine wk_seq (fun K7 hK7 => ?_)
      refine wk_reg ?_
      iterate 2 (refine pl_take (v := ?_) rfl ?_ ?_; rotate_left; (· (go_simp; first | done | with_reducible rfl | rfl | omega | assumption | (simp; omega))); (try simp only [Act.put, aP, aZ, aS]))
      by_cases k1 : x13 ∈ b
      · refine pl_take (v := .bool true) rfl ?_ ?_
        · ((with_reducible apply yl_lookupV (xk := x13) ktInt); assumption; rfl; rfl; (repeat (first | with_reducible exact Out.here _ | apply Out.there)); exact hx64; (simp [setM_get hb, k1]))
        (try simp only [Act.put, aP, aZ, aS])
        refine pl_done ?_
        refine hK7.out _ _ ?_
        (try clear hK7 K7)
        refine wp_cond_true rfl ?_
        refine wk_reg ?_
        iterate 3 (refine pl_take (v := ?_) rfl ?_ ?_; rotate_left; (· (go_simp; first | done | with_reducible rfl | rfl | omega | assumption | (simp; omega))); (try simp only [Act.put, aP, aZ, aS]))
        refine pl_done ?_
        (try dsimp only [Exit.inBlock, Exit.then])
        refine (by assumption : ∀ a' w', Handed _ _ a' w' → _) _ _ ?_
        go_roundg (gk - 1)
        case measure => omega
        case rel => first | exact ⟨k + 1, ls.filter (fun y => decide (y ≠ x13)), some (x13, .bool true), by go_num, cs.1, ⟨cs.2.1, cs.2.2.1, cs.2.2.2.1 k1⟩, (by assumption : Sat w0 _ _).pick (by (repeat (first | exact Pick.nil _ | exact Pick.tail _ | exact Out.here _ | apply Out.there | apply Pick.cons | apply Pick.drop)))⟩ | exact ⟨k, ls.filter (fun y => decide (y ≠ x13)), some (x13, .bool true), by go_num, cs.1, ⟨cs.2.1, cs.2.2.1, cs.2.2.2.2 k1⟩, (by assumption : Sat w0 _ _).pick (by (repeat (first | exact Pick.nil _ | exact Pick.tail _ | exact Out.here _ | apply Out.there | apply Pick.cons | apply Pick.drop)))⟩
      · refine pl_take (v := .bool false) rfl ?_ ?_
        · ((with_reducible apply yl_lookupV (xk := x13) ktInt); assumption; rfl; rfl; (repeat (first | with_reducible exact Out.here _ | apply Out.there)); exact hx64; (simp [setM_get hb, k1]))
        (try simp only [Act.put, aP, aZ, aS])
        refine pl_done ?_
        refine hK7.out _ _ ?_
        (try clear hK7 K7)
        refine wp_cond_false rfl ?_
        refine wp_skip ?_
        (try dsimp only [Exit.inBlock, Exit.then])
        refine (by assumption : ∀ a' w', Handed _ _ a' w' → _) _ _ ?_
        go_roundg (gk - 1)
        case measure => omega
        case rel => first | exact ⟨k + 1, ls.filter (fun y => decide (y ≠ x13)), some (x13, .bool true), by go_num, cs.1, ⟨cs.2.1, cs.2.2.1, cs.2.2.2.1 k1⟩, (by assumption : Sat w0 _ _).pick (by (repeat (first | exact Pick.nil _ | exact Pick.tail _ | exact Out.here _ | apply Out.there | apply Pick.cons | apply Pick.drop)))⟩ | exact ⟨k, ls.filter (fun y => decide (y ≠ x13)), some (x13, .bool true), by go_num, cs.1, ⟨cs.2.1, cs.2.2.1, cs.2.2.2.2 k1⟩, (by assumption : Sat w0 _ _).pick (by (repeat (first | exact Pick.nil _ | exact Pick.tail _ | exact Out.here _ | apply Out.there | apply Pick.cons | apply Pick.drop)))⟩
end Go.Proofs.Ytcpcdhlfdabbnaa
