/-
  Commands of the machine: as bytes, of bytes.
-/
import Derived.Test.YtdlimjcidblneaaSrv4
import Derived.Test.YtdlimjcidblneaaWk
namespace Go.Proofs.Ytdlimjcidblneaa
open Go Go.RowKit Sl Go.Shelf
set_option maxHeartbeats 20000000
set_option maxRecDepth 8000

def nms (xs : List Int) : List UInt8 := (xs.map fun x => num x.toNat).flatten
def okNum (n : Int) : Bool := decide (1 ≤ n ∧ n < 1099511627776)

theorem nms_len {xs : List Int} (h : ∀ x ∈ xs, 0 ≤ x ∧ x < 281474976710656) : (nms xs).length ≤ 8 * xs.length := by
  induction xs with
  | nil => simp [nms]
  | cons x xs ih =>
    have h1 := num_len x.toNat (by have := h x (by simp); omega)
    have h2 := ih (fun y hy => h y (by simp [hy]))
    simp only [nms, List.map_cons, List.flatten_cons, List.length_append, List.length_cons] at h2 ⊢
    omega

theorem take_snocM {α : Type} {es : List α} {k : Nat} {x : α} (h : es[k]? = some x) : es.take (k + 1) = es.take k ++ [x] := by rw [List.take_add_one, h]; rfl

theorem nms_snoc {xs : List Int} {k : Nat} {x : Int} (h : xs[k]? = some x) : nms (xs.take (k + 1)) = nms (xs.take k) ++ num x.toNat := by
  rw [take_snocM h]; simp [nms]

theorem numbers_spec {w0 w : World} {L : List HP} {A : Option Addr} {n c : Nat} (xs : List Int) (hx : ∀ x ∈ xs, 0 ≤ x ∧ x < 281474976710656) (hn : Hid (n = xs.length)) (h64 : n ≤ 64) (hs : Sat w0 w L) (hR : Rd w0 L A n 1 (I8 xs)) :
    Calls Try.prog 41 #[.slice A n c] w (RetS w0 L (nms xs)) := by
  go_enter Try.func41, Try.ntmps41
  have hsA0 := hs.own_nil 5 1
  refine wk_seq (fun K0 hK0 => ?_); refine wk_reg ?_; refine pl_take (v := ?_) rfl ?_ ?_; rotate_left; (· (go_simp; first | done | with_reducible rfl | rfl | omega | assumption | (simp; omega))); (try simp only [Act.put, aP, aZ, aS]); refine pl_done ?_; refine hK0.out _ _ ?_; (try clear hK0 K0); refine wk_seq (fun K1 hK1 => ?_); refine wk_reg ?_; refine pl_take (v := ?_) rfl ?_ ?_; rotate_left; (· (go_simp; first | done | with_reducible rfl | rfl | omega | assumption | (simp; omega))); (try simp only [Act.put, aP, aZ, aS]); refine pl_done ?_; refine hK1.out _ _ ?_; (try clear hK1 K1); refine wk_seq (fun K2 hK2 => ?_); refine wk_seq (fun K3 hK3 => ?_); refine wk_reg ?_; (iterate 3 (refine pl_take (v := ?_) rfl ?_ ?_; rotate_left; (· (go_simp; first | done | with_reducible rfl | rfl | omega | assumption | (simp; omega))); (try simp only [Act.put, aP, aZ, aS]))); refine pl_done ?_; refine hK3.out _ _ ?_; (try clear hK3 K3); refine wp_block ?_
  -- at a loop
  go_loopw [3, 10] (fun s3 s10 wr => ∃ (k q cx : Nat) (X : Option Addr), s3 = .slice X q cx ∧ s10 = .int .i64 k ∧ k ≤ n ∧ q ≤ 512 ∧ Hid (q = (nms (xs.take k)).length) ∧ Sat w0 wr (own 5 1 X cx q (B8 (nms (xs.take k))) :: L)) (fun _ s10 _ => n - (intOf s10).toNat)
  case atStart => exact ⟨0, 0, 0, none, rfl, rfl, Nat.zero_le _, Nat.zero_le _, rfl, hsA0.pick (by (repeat (first | exact Pick.nil _ | exact Pick.tail _ | exact Out.here _ | apply Out.there | apply Pick.cons | apply Pick.drop)))⟩
  case round =>
    clear hsA0
    obtain ⟨k, q, cx, X, rfl, rfl, hk, hq, Hq, hsC⟩ := hrel
    by_cases hlt : k < n
    · obtain ⟨x, hx1⟩ : ∃ x, xs[k]? = some x := ⟨xs[k]'(by have := hn.out; omega), List.getElem?_eq_getElem _⟩
      obtain ⟨ga, oa, rfl⟩ := hR.some_of hs (by omega)
      have ca := hR.elt (I8_at xs k x hx1)
      have hxb := hx x (List.mem_of_getElem? hx1)
      have i0 : (0 : Int) ≤ (k : Int) := by omega
      have i1 : (k : Int) < (n : Int) := by omega
      have hwk : IntKind.i64.wrap ((k : Int) + 1) = (k : Int) + 1 := IntWalk.i64_in _ (by omega)
      have hP : ∀ {w : World} {L : List HP}, Sat w0 w L → Calls Try.prog 64 #[.int .i64 x] w (RetT w0 L (num x.toNat, 0)) := fun hs => by
        have := putNumber_spec x hs
        rwa [show putNumber x = (num x.toNat, 0) from by unfold putNumber; rw [if_neg (by omega)]] at this
      have Hs := Hid.mk' (nms_snoc hx1)
      have hnl := num_len x.toNat (by omega)
      obtain ⟨y, hy⟩ : ∃ y, num x.toNat = y := ⟨_, rfl⟩
      rw [hy] at hP hnl
      have Hs' : Hid (nms (xs.take (k + 1)) = nms (xs.take k) ++ y) := by unfold Hid; rw [Hs.out, hy]
      have hq2 : q + y.length ≤ 512 := by
        have h1 := nms_len (xs := xs.take (k + 1)) (fun z hz => hx z (List.mem_of_mem_take hz))
        rw [Hs'.out, List.length_append, ← Hq.out] at h1
        have h2 : (xs.take (k + 1)).length ≤ 64 := by simp; have := hn.out; omega
        omega
      have HB : Hid (B8 (nms (xs.take k)) ++ B8 y = B8 (nms (xs.take (k + 1)))) := by unfold Hid; rw [Hs'.out]; simp [B8]
      have Hq2 : Hid (q + y.length = (nms (xs.take (k + 1))).length) := by unfold Hid; rw [Hs'.out, List.length_append, Hq.out]
      clear hx1 hy Hs
      refine wk_seq (fun K4 hK4 => ?_); refine wk_reg ?_; refine pl_take (v := .bool true) rfl ?_ ?_; (· (go_simp; first | done | with_reducible rfl | rfl | omega | assumption | (simp; omega))); (try simp only [Act.put, aP, aZ, aS]); refine pl_done ?_; refine hK4.out _ _ ?_; (try clear hK4 K4); refine wk_seq (fun K5 hK5 => ?_); refine wp_cond_true rfl ?_; refine wp_skip ?_; refine hK5.out _ _ ?_; (try clear hK5 K5); refine wk_seq (fun K6 hK6 => ?_); refine wp_block ?_; refine wk_seq (fun K7 hK7 => ?_); refine wk_reg ?_; (iterate 3 (refine pl_take (v := ?_) rfl ?_ ?_; rotate_left; (· (first | ((with_reducible apply yl_load); assumption; rfl; (repeat (first | with_reducible assumption | ((with_reducible apply Cl.own); exact rfl) | ((with_reducible apply Cl.blkL); exact rfl) | with_reducible apply Cl.cons)); rfl) | (go_simp; first | done | with_reducible rfl | rfl | omega | assumption | (simp; omega)))); (try simp only [Act.put, aP, aZ, aS]))); refine pl_done ?_; refine hK7.out _ _ ?_; (try clear hK7 K7); refine wk_seq (fun K8 hK8 => ?_); refine wk_reg ?_; refine pl_take (v := ?_) rfl ?_ ?_; rotate_left; (· (go_simp; first | done | with_reducible rfl | rfl | omega | assumption | (simp; omega))); (try simp only [Act.put, aP, aZ, aS]); refine pl_eff rfl (fun Kp hKp => ?_); go_simp; (refine (hP (by assumption)).mono ?_; rintro e16 w16 ⟨Y16, c16, rfl, hs16⟩; simp only at hs16); (try go_wp2_with fail); refine hKp.out _ _ ?_; clear hKp Kp; (try simp only [Act.put, aP, aZ, aS]); (iterate 5 (refine pl_take (v := ?_) rfl ?_ ?_; rotate_left; (· (go_simp; first | done | with_reducible rfl | rfl | omega | assumption | (simp; omega))); (try simp only [Act.put, aP, aZ, aS]))); refine pl_done ?_; refine hK8.out _ _ ?_; (try clear hK8 K8); refine wk_reg ?_; (iterate 2 (refine pl_take (v := ?_) rfl ?_ ?_; rotate_left; (· (go_simp; first | done | with_reducible rfl | rfl | omega | assumption | (simp; omega))); (try simp only [Act.put, aP, aZ, aS]))); refine pl_eff rfl (fun Kp hKp => ?_); ((with_reducible apply st_append); go_must (assumption; rfl; rfl; (repeat (first | with_reducible exact Out.here _ | apply Out.there)); (repeat (first | with_reducible assumption | with_reducible exact Rd.own | with_reducible exact Rd.nil | with_reducible apply Rd.cons)); (first | exact B8_one _ | exact I8_one _ | (simp [Value.oneCell'])); (first | omega | (simp only [maxLen]; omega)); omega; intro A21 c21 w21 hs21 hc21; (try ((refine hs21.own_elim ?_ ?_); omega; rintro g21 rfl)); try simp only [Nat.zero_add, List.nil_append] at hs21 hc21)); refine hKp.out _ _ ?_; clear hKp Kp; (try simp only [Act.put, aP, aZ, aS]); refine pl_take (v := ?_) rfl ?_ ?_; rotate_left; (· (go_simp; first | done | with_reducible rfl | rfl | omega | assumption | (simp; omega))); (try simp only [Act.put, aP, aZ, aS]); refine pl_done ?_; refine hK6.out _ _ ?_; (try clear hK6 K6); refine wk_reg ?_; (iterate 2 (refine pl_take (v := ?_) rfl ?_ ?_; rotate_left; (· (go_simp; first | done | with_reducible rfl | rfl | omega | assumption | (simp; omega))); (try simp only [Act.put, aP, aZ, aS]))); refine pl_done ?_; (try dsimp only [Exit.inBlock, Exit.then])
      go_roundw
      case rel => exact ⟨k + 1, q + y.length, _, _, by go_num, by go_num, by omega, hq2, Hq2, by rw [← HB.out]; exact (by assumption : Sat w0 _ _).pick (by (repeat (first | exact Pick.nil _ | exact Pick.tail _ | exact Out.here _ | apply Out.there | apply Pick.cons | apply Pick.drop)))⟩
      case measure => simp [intOf]; omega
    · obtain rfl : k = n := by omega
      rw [List.take_of_length_le (by have := hn.out; omega)] at Hq hsC
      obtain rfl := Hq.out
      refine wk_seq (fun K4 hK4 => ?_); refine wk_reg ?_; refine pl_take (v := .bool false) rfl ?_ ?_; (· (go_simp; first | done | with_reducible rfl | rfl | omega | assumption | (simp; omega))); (try simp only [Act.put, aP, aZ, aS]); refine pl_done ?_; refine hK4.out _ _ ?_; (try clear hK4 K4); refine wk_seq (fun K5 hK5 => ?_); refine wp_cond_false rfl ?_; refine wp_exit ?_; refine hK2.out _ _ ?_; (try clear hK2 K2); refine wk_seq (fun K9 hK9 => ?_); refine wk_reg ?_; (iterate 2 (refine pl_take (v := ?_) rfl ?_ ?_; rotate_left; (· (go_simp; first | done | with_reducible rfl | rfl | omega | assumption | (simp; omega))); (try simp only [Act.put, aP, aZ, aS]))); refine pl_done ?_; refine hK9.out _ _ ?_; (try clear hK9 K9); refine wp_ret ?_
      go_ret
      exact ⟨X, cx, rfl, (by assumption : Sat w0 _ _).pick (by (repeat (first | exact Pick.nil _ | exact Pick.tail _ | exact Out.here _ | apply Out.there | apply Pick.cons | apply Pick.drop)))⟩

theorem numM_spec {w0 w : World} {L : List HP} (n : Int) (hs : Sat w0 w L) : Calls Try.prog 42 #[.int .i64 n] w (RetB w0 L (okNum n)) := by
  go_enter Try.func42, Try.ntmps42
  refine wk_seq (fun K0 hK0 => ?_); refine wk_reg ?_; refine pl_take (v := .bool false) rfl ?_ ?_; (· (go_simp; first | done | with_reducible rfl | rfl | omega | assumption | (simp; omega))); (try simp only [Act.put, aP, aZ, aS]); refine pl_done ?_; refine hK0.out _ _ ?_; (try clear hK0 K0); refine wk_seq (fun K1 hK1 => ?_); refine wk_reg ?_; refine pl_take (v := ?_) rfl ?_ ?_; rotate_left; (· (go_simp; first | done | with_reducible rfl | rfl | omega | assumption | (simp; omega))); (try simp only [Act.put, aP, aZ, aS])
  by_cases h1 : 1 ≤ n
  · refine pl_take (v := .bool true) rfl ?_ ?_
    (· (go_simp; first | done | with_reducible rfl | rfl | omega | assumption | (simp; omega))); (try simp only [Act.put, aP, aZ, aS]); refine pl_take (v := .bool true) rfl ?_ ?_; (· (go_simp; first | done | with_reducible rfl | rfl | omega | assumption | (simp; omega))); (try simp only [Act.put, aP, aZ, aS]); refine pl_take (v := ?_) (by kernel_rfl) ?_ ?_; rotate_left; (· (go_simp; first | done | with_reducible rfl | rfl | omega | assumption | (simp; omega))); (try simp only [Act.put, aP, aZ, aS])
    by_cases h2 : n < 1099511627776
    · refine pl_take (v := .bool true) (by kernel_rfl) ?_ ?_
      (· (go_simp; first | done | with_reducible rfl | rfl | omega | assumption | (simp; omega))); (try simp only [Act.put, aP, aZ, aS]); (iterate 2 (refine pl_take (v := .bool true) rfl ?_ ?_; (· (go_simp; first | done | with_reducible rfl | rfl | omega | assumption | (simp; omega))); (try simp only [Act.put, aP, aZ, aS]))); refine pl_done ?_; refine hK1.out _ _ ?_; (try clear hK1 K1); refine wp_ret ?_
      go_ret
      refine ⟨?_, (by assumption : Sat w0 _ _).pick (by (repeat (first | exact Pick.nil _ | exact Pick.tail _ | exact Out.here _ | apply Out.there | apply Pick.cons | apply Pick.drop)))⟩
      (simp [okNum]; omega)
    · refine pl_take (v := .bool false) (by kernel_rfl) ?_ ?_
      (· (go_simp; first | done | with_reducible rfl | rfl | omega | assumption | (simp; omega))); (try simp only [Act.put, aP, aZ, aS]); (iterate 2 (refine pl_take (v := .bool false) rfl ?_ ?_; (· (go_simp; first | done | with_reducible rfl | rfl | omega | assumption | (simp; omega))); (try simp only [Act.put, aP, aZ, aS]))); refine pl_done ?_; refine hK1.out _ _ ?_; (try clear hK1 K1); refine wp_ret ?_
      go_ret
      refine ⟨?_, (by assumption : Sat w0 _ _).pick (by (repeat (first | exact Pick.nil _ | exact Pick.tail _ | exact Out.here _ | apply Out.there | apply Pick.cons | apply Pick.drop)))⟩
      (simp [okNum]; omega)
  · refine pl_take (v := .bool false) rfl ?_ ?_
    (· (go_simp; first | done | with_reducible rfl | rfl | omega | assumption | (simp; omega))); (try simp only [Act.put, aP, aZ, aS]); refine pl_take (v := .bool false) rfl ?_ ?_; (· (go_simp; first | done | with_reducible rfl | rfl | omega | assumption | (simp; omega))); (try simp only [Act.put, aP, aZ, aS]); (iterate 2 (refine pl_skip (by kernel_rfl) ?_; (try simp only [Act.put, aP, aZ, aS]))); (iterate 2 (refine pl_take (v := .bool false) rfl ?_ ?_; (· (go_simp; first | done | with_reducible rfl | rfl | omega | assumption | (simp; omega))); (try simp only [Act.put, aP, aZ, aS]))); refine pl_done ?_; refine hK1.out _ _ ?_; (try clear hK1 K1); refine wp_ret ?_
    go_ret
    refine ⟨?_, (by assumption : Sat w0 _ _).pick (by (repeat (first | exact Pick.nil _ | exact Pick.tail _ | exact Out.here _ | apply Out.there | apply Pick.cons | apply Pick.drop)))⟩
    (simp [okNum]; omega)

theorem numR_spec {w0 w : World} {L : List HP} (n : Int) (hs : Sat w0 w L) : Calls Try.prog 45 #[.int .i64 n] w (RetB w0 L (okNum n)) := by
  go_enter Try.func45, Try.ntmps45
  refine wk_seq (fun K0 hK0 => ?_); refine wk_reg ?_; refine pl_take (v := .bool false) rfl ?_ ?_; (· (go_simp; first | done | with_reducible rfl | rfl | omega | assumption | (simp; omega))); (try simp only [Act.put, aP, aZ, aS]); refine pl_done ?_; refine hK0.out _ _ ?_; (try clear hK0 K0); refine wk_seq (fun K1 hK1 => ?_); refine wk_reg ?_; refine pl_take (v := ?_) rfl ?_ ?_; rotate_left; (· (go_simp; first | done | with_reducible rfl | rfl | omega | assumption | (simp; omega))); (try simp only [Act.put, aP, aZ, aS])
  by_cases h1 : 1 ≤ n
  · refine pl_take (v := .bool true) rfl ?_ ?_
    (· (go_simp; first | done | with_reducible rfl | rfl | omega | assumption | (simp; omega))); (try simp only [Act.put, aP, aZ, aS]); refine pl_take (v := .bool true) rfl ?_ ?_; (· (go_simp; first | done | with_reducible rfl | rfl | omega | assumption | (simp; omega))); (try simp only [Act.put, aP, aZ, aS]); refine pl_take (v := ?_) (by kernel_rfl) ?_ ?_; rotate_left; (· (go_simp; first | done | with_reducible rfl | rfl | omega | assumption | (simp; omega))); (try simp only [Act.put, aP, aZ, aS])
    by_cases h2 : n < 1099511627776
    · refine pl_take (v := .bool true) (by kernel_rfl) ?_ ?_
      (· (go_simp; first | done | with_reducible rfl | rfl | omega | assumption | (simp; omega))); (try simp only [Act.put, aP, aZ, aS]); (iterate 2 (refine pl_take (v := .bool true) rfl ?_ ?_; (· (go_simp; first | done | with_reducible rfl | rfl | omega | assumption | (simp; omega))); (try simp only [Act.put, aP, aZ, aS]))); refine pl_done ?_; refine hK1.out _ _ ?_; (try clear hK1 K1); refine wp_ret ?_
      go_ret
      refine ⟨?_, (by assumption : Sat w0 _ _).pick (by (repeat (first | exact Pick.nil _ | exact Pick.tail _ | exact Out.here _ | apply Out.there | apply Pick.cons | apply Pick.drop)))⟩
      (simp [okNum]; omega)
    · refine pl_take (v := .bool false) (by kernel_rfl) ?_ ?_
      (· (go_simp; first | done | with_reducible rfl | rfl | omega | assumption | (simp; omega))); (try simp only [Act.put, aP, aZ, aS]); (iterate 2 (refine pl_take (v := .bool false) rfl ?_ ?_; (· (go_simp; first | done | with_reducible rfl | rfl | omega | assumption | (simp; omega))); (try simp only [Act.put, aP, aZ, aS]))); refine pl_done ?_; refine hK1.out _ _ ?_; (try clear hK1 K1); refine wp_ret ?_
      go_ret
      refine ⟨?_, (by assumption : Sat w0 _ _).pick (by (repeat (first | exact Pick.nil _ | exact Pick.tail _ | exact Out.here _ | apply Out.there | apply Pick.cons | apply Pick.drop)))⟩
      (simp [okNum]; omega)
  · refine pl_take (v := .bool false) rfl ?_ ?_
    (· (go_simp; first | done | with_reducible rfl | rfl | omega | assumption | (simp; omega))); (try simp only [Act.put, aP, aZ, aS]); refine pl_take (v := .bool false) rfl ?_ ?_; (· (go_simp; first | done | with_reducible rfl | rfl | omega | assumption | (simp; omega))); (try simp only [Act.put, aP, aZ, aS]); (iterate 2 (refine pl_skip (by kernel_rfl) ?_; (try simp only [Act.put, aP, aZ, aS]))); (iterate 2 (refine pl_take (v := .bool false) rfl ?_ ?_; (· (go_simp; first | done | with_reducible rfl | rfl | omega | assumption | (simp; omega))); (try simp only [Act.put, aP, aZ, aS]))); refine pl_done ?_; refine hK1.out _ _ ?_; (try clear hK1 K1); refine wp_ret ?_
    go_ret
    refine ⟨?_, (by assumption : Sat w0 _ _).pick (by (repeat (first | exact Pick.nil _ | exact Pick.tail _ | exact Out.here _ | apply Out.there | apply Pick.cons | apply Pick.drop)))⟩
    (simp [okNum]; omega)

def cOpen : List UInt8 := num 1
def cPut (s q : Int) (d : List UInt8) : List UInt8 := num 2 ++ num s.toNat ++ num q.toNat ++ (num d.length ++ d)
def cTrim (t : Int) : List UInt8 := num 3 ++ num t.toNat
def putC (s q : Int) (d : List UInt8) : List UInt8 × Int := if okNum s = false ∨ okNum q = false then ([], 1) else if 1024 < d.length then ([], 6) else (cPut s q d, 0)
def trimC (t : Int) : List UInt8 × Int := if t < 0 ∨ 1099511627776 ≤ t then ([], 1) else (cTrim t, 0)

theorem openM_spec {w0 w : World} {L : List HP} (hs : Sat w0 w L) : Calls Try.prog 15 #[] w (RetS w0 L cOpen) := by
  have hN := fun (w : World) (L' : List HP) (A : Option Addr) (hs : Sat w0 w L') (h : Rd w0 L' A 1 1 (I8 [1])) => numbers_spec (n := 1) (c := 1) [1] (by simp) rfl (by omega) hs h
  rw [show nms [1] = cOpen from by simp [nms, cOpen]] at hN
  go_enter Try.func15, Try.ntmps15
  refine wk_seq (fun K0 hK0 => ?_); refine wk_reg ?_; refine pl_take (v := ?_) rfl ?_ ?_; rotate_left; (· (go_simp; first | done | with_reducible rfl | rfl | omega | assumption | (simp; omega))); (try simp only [Act.put, aP, aZ]); refine pl_done ?_; refine hK0.out _ _ ?_; (try clear hK0 K0); refine wk_seq (fun K1 hK1 => ?_); refine wk_reg ?_; refine pl_eff rfl (fun Kp hKp => ?_); ((with_reducible apply st_buildSlice); assumption; rfl; (go_simp; rfl); (simp [Value.cells]); omega; intro b1 w1 hs1); refine hKp.out _ _ ?_; clear hKp Kp; (try simp only [Act.put, aP, aZ, aS]); refine pl_eff rfl (fun Kp hKp => ?_); go_simp; (refine (hN _ _ _ (by assumption) Rd.own).mono ?_; rintro e2 w2 ⟨A2, c2, rfl, hs2⟩); (try go_wp2_with fail); refine hKp.out _ _ ?_; clear hKp Kp; (try simp only [Act.put, aP, aZ, aS]); refine pl_take (v := ?_) rfl ?_ ?_; rotate_left; (· (go_simp; first | done | with_reducible rfl | rfl | omega | assumption | (simp; omega))); (try simp only [Act.put, aP, aZ]); refine pl_done ?_; refine hK1.out _ _ ?_; (try clear hK1 K1); refine wp_ret ?_
  go_ret
  exact ⟨A2, c2, rfl, (by assumption : Sat w0 _ _).pick (by (repeat (first | exact Pick.nil _ | exact Pick.tail _ | exact Out.here _ | apply Out.there | apply Pick.cons | apply Pick.drop)))⟩

theorem RdBB.pair {w0 : World} {L : List HP} {A B C : Option Addr} {b c : Nat} {x y : List UInt8} (h : Rd w0 L A 2 1 [.slice B x.length b, .slice C y.length c]) (hx : Rd w0 L B x.length 1 (B8 x)) (hy : Rd w0 L C y.length 1 (B8 y)) : RdBB w0 L A 2 [x, y] := by
  refine ⟨_, h, rfl, rfl, fun i l hi => ?_⟩
  match i, hi with
  | 0, hi => simp at hi; subst hi; exact ⟨B, b, rfl, hx⟩
  | 1, hi => simp at hi; subst hi; exact ⟨C, c, rfl, hy⟩

theorem putM_spec {w0 w : World} {L : List HP} {A : Option Addr} {c : Nat} (s q : Int) (d : List UInt8) (hd : d.length ≤ 4294967296) (hs : Sat w0 w L) (hR : Rd w0 L A d.length 1 (B8 d)) :
    Calls Try.prog 19 #[.int .i64 s, .int .i64 q, .slice A d.length c] w (RetT w0 L (putC s q d)) := by
  have hns := fun (w : World) (L' : List HP) (hs : Sat w0 w L') => numM_spec s hs
  have hnq := fun (w : World) (L' : List HP) (hs : Sat w0 w L') => numM_spec q hs
  cases h1 : okNum s with
  | false =>
    rw [h1] at hns
    rw [show putC s q d = ([], 1) from by unfold putC; rw [if_pos (.inl h1)]]
    clear h1
    go_enter Try.func19, Try.ntmps19
    refine wk_seq (fun K0 hK0 => ?_); refine wk_reg ?_; (iterate 2 (refine pl_take (v := ?_) rfl ?_ ?_; rotate_left; (· (go_simp; first | done | with_reducible rfl | rfl | omega | assumption | (simp; omega))); (try simp only [Act.put, aP, aZ, aS]))); refine pl_done ?_; refine hK0.out _ _ ?_; (try clear hK0 K0); refine wk_seq (fun K1 hK1 => ?_); refine wp_block ?_; refine wk_seq (fun K2 hK2 => ?_); refine wk_seq (fun K3 hK3 => ?_); refine wk_reg ?_; refine pl_take (v := ?_) rfl ?_ ?_; rotate_left; (· (go_simp; first | done | with_reducible rfl | rfl | omega | assumption | (simp; omega))); (try simp only [Act.put, aP, aZ, aS]); refine pl_eff rfl (fun Kp hKp => ?_); go_simp; (refine (hns _ _ (by assumption)).mono ?_; rintro e12 w12 ⟨rfl, hs12⟩); (try go_wp2_with fail); refine hKp.out _ _ ?_; clear hKp Kp; (try simp only [Act.put, aP, aZ, aS]); (iterate 2 (refine pl_take (v := .bool true) rfl ?_ ?_; (· (go_simp; first | done | with_reducible rfl | rfl | omega | assumption | (simp; omega))); (try simp only [Act.put, aP, aZ, aS]))); refine pl_done ?_; refine hK3.out _ _ ?_; (try clear hK3 K3); refine wp_cond_true rfl ?_; refine wp_skip ?_; refine hK2.out _ _ ?_; (try clear hK2 K2); refine wp_cond_true rfl ?_; refine wk_seq (fun K4 hK4 => ?_); refine wk_reg ?_; (iterate 2 (refine pl_take (v := ?_) rfl ?_ ?_; rotate_left; (· (go_simp; first | done | with_reducible rfl | rfl | omega | assumption | (simp; omega))); (try simp only [Act.put, aP, aZ, aS]))); refine pl_done ?_; refine hK4.out _ _ ?_; (try clear hK4 K4); refine wp_ret ?_
    go_ret2
    exact ⟨none, 0, rfl, ((by assumption : Sat w0 w12 L).own_nil 5 1).pick (by (repeat (first | exact Pick.nil _ | exact Pick.tail _ | exact Out.here _ | apply Out.there | apply Pick.cons | apply Pick.drop)))⟩
  | true =>
    rw [h1] at hns
    cases h2 : okNum q with
    | false =>
      rw [h2] at hnq
      rw [show putC s q d = ([], 1) from by unfold putC; rw [if_pos (.inr h2)]]
      clear h1 h2
      go_enter Try.func19, Try.ntmps19
      refine wk_seq (fun K0 hK0 => ?_); refine wk_reg ?_; (iterate 2 (refine pl_take (v := ?_) rfl ?_ ?_; rotate_left; (· (go_simp; first | done | with_reducible rfl | rfl | omega | assumption | (simp; omega))); (try simp only [Act.put, aP, aZ, aS]))); refine pl_done ?_; refine hK0.out _ _ ?_; (try clear hK0 K0); refine wk_seq (fun K1 hK1 => ?_); refine wp_block ?_; refine wk_seq (fun K2 hK2 => ?_); refine wk_seq (fun K3 hK3 => ?_); refine wk_reg ?_; refine pl_take (v := ?_) rfl ?_ ?_; rotate_left; (· (go_simp; first | done | with_reducible rfl | rfl | omega | assumption | (simp; omega))); (try simp only [Act.put, aP, aZ, aS]); refine pl_eff rfl (fun Kp hKp => ?_); go_simp; (refine (hns _ _ (by assumption)).mono ?_; rintro e12 w12 ⟨rfl, hs12⟩); (try go_wp2_with fail); refine hKp.out _ _ ?_; clear hKp Kp; (try simp only [Act.put, aP, aZ, aS]); (iterate 2 (refine pl_take (v := .bool false) rfl ?_ ?_; (· (go_simp; first | done | with_reducible rfl | rfl | omega | assumption | (simp; omega))); (try simp only [Act.put, aP, aZ, aS]))); refine pl_done ?_; refine hK3.out _ _ ?_; (try clear hK3 K3); refine wp_cond_false rfl ?_; refine wk_reg ?_; refine pl_take (v := ?_) rfl ?_ ?_; rotate_left; (· (go_simp; first | done | with_reducible rfl | rfl | omega | assumption | (simp; omega))); (try simp only [Act.put, aP, aZ, aS]); refine pl_eff rfl (fun Kp hKp => ?_); go_simp; (refine (hnq _ _ (by assumption)).mono ?_; rintro e15 w15 ⟨rfl, hs15⟩); (try go_wp2_with fail); refine hKp.out _ _ ?_; clear hKp Kp; (try simp only [Act.put, aP, aZ, aS]); (iterate 2 (refine pl_take (v := .bool true) rfl ?_ ?_; (· (go_simp; first | done | with_reducible rfl | rfl | omega | assumption | (simp; omega))); (try simp only [Act.put, aP, aZ, aS]))); refine pl_done ?_; refine hK2.out _ _ ?_; (try clear hK2 K2); refine wp_cond_true rfl ?_; refine wk_seq (fun K4 hK4 => ?_); refine wk_reg ?_; (iterate 2 (refine pl_take (v := ?_) rfl ?_ ?_; rotate_left; (· (go_simp; first | done | with_reducible rfl | rfl | omega | assumption | (simp; omega))); (try simp only [Act.put, aP, aZ, aS]))); refine pl_done ?_; refine hK4.out _ _ ?_; (try clear hK4 K4); refine wp_ret ?_
      go_ret2
      exact ⟨none, 0, rfl, ((by assumption : Sat w0 w15 L).own_nil 5 1).pick (by (repeat (first | exact Pick.nil _ | exact Pick.tail _ | exact Out.here _ | apply Out.there | apply Pick.cons | apply Pick.drop)))⟩
    | true =>
      rw [h2] at hnq
      by_cases h3 : 1024 < d.length
      · rw [show putC s q d = ([], 6) from by unfold putC; rw [if_neg (by rw [h1, h2]; simp), if_pos h3]]
        have h3' : (1024 : Int) < (d.length : Int) := by omega
        clear h1 h2
        go_enter Try.func19, Try.ntmps19
        refine wk_seq (fun K0 hK0 => ?_); refine wk_reg ?_; (iterate 2 (refine pl_take (v := ?_) rfl ?_ ?_; rotate_left; (· (go_simp; first | done | with_reducible rfl | rfl | omega | assumption | (simp; omega))); (try simp only [Act.put, aP, aZ, aS]))); refine pl_done ?_; refine hK0.out _ _ ?_; (try clear hK0 K0); refine wk_seq (fun K1 hK1 => ?_); refine wp_block ?_; refine wk_seq (fun K2 hK2 => ?_); refine wk_seq (fun K3 hK3 => ?_); refine wk_reg ?_; refine pl_take (v := ?_) rfl ?_ ?_; rotate_left; (· (go_simp; first | done | with_reducible rfl | rfl | omega | assumption | (simp; omega))); (try simp only [Act.put, aP, aZ, aS]); refine pl_eff rfl (fun Kp hKp => ?_); go_simp; (refine (hns _ _ (by assumption)).mono ?_; rintro e12 w12 ⟨rfl, hs12⟩); (try go_wp2_with fail); refine hKp.out _ _ ?_; clear hKp Kp; (try simp only [Act.put, aP, aZ, aS]); (iterate 2 (refine pl_take (v := .bool false) rfl ?_ ?_; (· (go_simp; first | done | with_reducible rfl | rfl | omega | assumption | (simp; omega))); (try simp only [Act.put, aP, aZ, aS]))); refine pl_done ?_; refine hK3.out _ _ ?_; (try clear hK3 K3); refine wp_cond_false rfl ?_; refine wk_reg ?_; refine pl_take (v := ?_) rfl ?_ ?_; rotate_left; (· (go_simp; first | done | with_reducible rfl | rfl | omega | assumption | (simp; omega))); (try simp only [Act.put, aP, aZ, aS]); refine pl_eff rfl (fun Kp hKp => ?_); go_simp; (refine (hnq _ _ (by assumption)).mono ?_; rintro e15 w15 ⟨rfl, hs15⟩); (try go_wp2_with fail); refine hKp.out _ _ ?_; clear hKp Kp; (try simp only [Act.put, aP, aZ, aS]); (iterate 2 (refine pl_take (v := .bool false) rfl ?_ ?_; (· (go_simp; first | done | with_reducible rfl | rfl | omega | assumption | (simp; omega))); (try simp only [Act.put, aP, aZ, aS]))); refine pl_done ?_; refine hK2.out _ _ ?_; (try clear hK2 K2); refine wp_cond_false rfl ?_; refine wk_seq (fun K5 hK5 => ?_); refine wk_reg ?_; (iterate 2 (refine pl_take (v := ?_) rfl ?_ ?_; rotate_left; (· (go_simp; first | done | with_reducible rfl | rfl | omega | assumption | (simp; omega))); (try simp only [Act.put, aP, aZ, aS]))); (iterate 2 (refine pl_take (v := .bool true) rfl ?_ ?_; (· (go_simp; first | done | with_reducible rfl | rfl | omega | assumption | (simp; omega))); (try simp only [Act.put, aP, aZ, aS]))); refine pl_done ?_; refine hK5.out _ _ ?_; (try clear hK5 K5); refine wp_cond_true rfl ?_; refine wk_seq (fun K6 hK6 => ?_); refine wk_reg ?_; (iterate 2 (refine pl_take (v := ?_) rfl ?_ ?_; rotate_left; (· (go_simp; first | done | with_reducible rfl | rfl | omega | assumption | (simp; omega))); (try simp only [Act.put, aP, aZ, aS]))); refine pl_done ?_; refine hK6.out _ _ ?_; (try clear hK6 K6); refine wp_ret ?_
        go_ret2
        exact ⟨none, 0, rfl, ((by assumption : Sat w0 w15 L).own_nil 5 1).pick (by (repeat (first | exact Pick.nil _ | exact Pick.tail _ | exact Out.here _ | apply Out.there | apply Pick.cons | apply Pick.drop)))⟩
      · rw [show putC s q d = (cPut s q d, 0) from by unfold putC; rw [if_neg (by rw [h1, h2]; simp), if_neg h3]]
        have h3' : ¬ (1024 : Int) < (d.length : Int) := by omega
        have hb1 : 0 ≤ s ∧ s < 281474976710656 := by simp [okNum] at h1; omega
        have hb2 : 0 ≤ q ∧ q < 281474976710656 := by simp [okNum] at h2; omega
        have hN := fun (w : World) (L' : List HP) (A : Option Addr) (hs : Sat w0 w L') (h : Rd w0 L' A 3 1 (I8 [2, s, q])) => numbers_spec (n := 3) (c := 3) [2, s, q] (by simp; omega) rfl (by omega) hs h
        have hB := fun (w : World) (L' : List HP) (hs : Sat w0 w L') (h : Rd w0 L' A d.length 1 (B8 d)) => putBytes_spec (c := c) d hd hs h
        rw [show putBytes d = (num d.length ++ d, 0) from by unfold putBytes; rw [if_neg (by omega)]] at hB
        have hj : [nms [2, s, q], num d.length ++ d].flatten = cPut s q d := by simp [nms, cPut]
        obtain ⟨X, hX⟩ : ∃ X, nms [2, s, q] = X := ⟨_, rfl⟩
        obtain ⟨Y, hY⟩ : ∃ Y, num d.length ++ d = Y := ⟨_, rfl⟩
        have hYl : Y.length ≤ 2048 := by rw [← hY, List.length_append]; have := num_len d.length (by omega); omega
        have hXl : X.length ≤ 24 := by rw [← hX]; exact nms_len (by simp; omega)
        rw [hX] at hN hj
        rw [hY] at hB hj
        have Hj := Hid.mk' hj
        have hzl : (cPut s q d).length ≤ 4096 := by rw [← hj]; simp; omega
        obtain ⟨Z, hZ⟩ : ∃ Z, cPut s q d = Z := ⟨_, rfl⟩
        rw [hZ] at hzl ⊢
        have Hj' : Hid ([X, Y].flatten = Z) := by unfold Hid; rw [Hj.out, hZ]
        clear h1 h2 hX hY hj Hj hZ
        go_enter Try.func19, Try.ntmps19
        refine wk_seq (fun K0 hK0 => ?_); refine wk_reg ?_; (iterate 2 (refine pl_take (v := ?_) rfl ?_ ?_; rotate_left; (· (go_simp; first | done | with_reducible rfl | rfl | omega | assumption | (simp; omega))); (try simp only [Act.put, aP, aZ, aS]))); refine pl_done ?_; refine hK0.out _ _ ?_; (try clear hK0 K0); refine wk_seq (fun K1 hK1 => ?_); refine wp_block ?_; refine wk_seq (fun K2 hK2 => ?_); refine wk_seq (fun K3 hK3 => ?_); refine wk_reg ?_; refine pl_take (v := ?_) rfl ?_ ?_; rotate_left; (· (go_simp; first | done | with_reducible rfl | rfl | omega | assumption | (simp; omega))); (try simp only [Act.put, aP, aZ, aS]); refine pl_eff rfl (fun Kp hKp => ?_); go_simp; (refine (hns _ _ (by assumption)).mono ?_; rintro e12 w12 ⟨rfl, hs12⟩); (try go_wp2_with fail); refine hKp.out _ _ ?_; clear hKp Kp; (try simp only [Act.put, aP, aZ, aS]); (iterate 2 (refine pl_take (v := .bool false) rfl ?_ ?_; (· (go_simp; first | done | with_reducible rfl | rfl | omega | assumption | (simp; omega))); (try simp only [Act.put, aP, aZ, aS]))); refine pl_done ?_; refine hK3.out _ _ ?_; (try clear hK3 K3); refine wp_cond_false rfl ?_; refine wk_reg ?_; refine pl_take (v := ?_) rfl ?_ ?_; rotate_left; (· (go_simp; first | done | with_reducible rfl | rfl | omega | assumption | (simp; omega))); (try simp only [Act.put, aP, aZ, aS]); refine pl_eff rfl (fun Kp hKp => ?_); go_simp; (refine (hnq _ _ (by assumption)).mono ?_; rintro e15 w15 ⟨rfl, hs15⟩); (try go_wp2_with fail); refine hKp.out _ _ ?_; clear hKp Kp; (try simp only [Act.put, aP, aZ, aS]); (iterate 2 (refine pl_take (v := .bool false) rfl ?_ ?_; (· (go_simp; first | done | with_reducible rfl | rfl | omega | assumption | (simp; omega))); (try simp only [Act.put, aP, aZ, aS]))); refine pl_done ?_; refine hK2.out _ _ ?_; (try clear hK2 K2); refine wp_cond_false rfl ?_; refine wk_seq (fun K5 hK5 => ?_); refine wk_reg ?_; (iterate 2 (refine pl_take (v := ?_) rfl ?_ ?_; rotate_left; (· (go_simp; first | done | with_reducible rfl | rfl | omega | assumption | (simp; omega))); (try simp only [Act.put, aP, aZ, aS]))); (iterate 2 (refine pl_take (v := .bool false) rfl ?_ ?_; (· (go_simp; first | done | with_reducible rfl | rfl | omega | assumption | (simp; omega))); (try simp only [Act.put, aP, aZ, aS]))); refine pl_done ?_; refine hK5.out _ _ ?_; (try clear hK5 K5); refine wp_cond_false rfl ?_; refine wp_skip ?_; refine hK1.out _ _ ?_; (try clear hK1 K1); refine wk_seq (fun K7 hK7 => ?_); refine wk_reg ?_; refine pl_take (v := ?_) rfl ?_ ?_; rotate_left; (· (go_simp; first | done | with_reducible rfl | rfl | omega | assumption | (simp; omega))); (try simp only [Act.put, aP, aZ, aS]); refine pl_eff rfl (fun Kp hKp => ?_); go_simp; (refine (hB _ _ (by assumption) (by (repeat (first | with_reducible assumption | with_reducible exact Rd.own | with_reducible exact Rd.nil | with_reducible apply Rd.cons)))).mono ?_; rintro e23 w23 ⟨B23, c23, rfl, hs23⟩; simp only at hs23); (try go_wp2_with fail); refine hKp.out _ _ ?_; clear hKp Kp; (try simp only [Act.put, aP, aZ, aS]); (iterate 5 (refine pl_take (v := ?_) rfl ?_ ?_; rotate_left; (· (go_simp; first | done | with_reducible rfl | rfl | omega | assumption | (simp; omega))); (try simp only [Act.put, aP, aZ, aS]))); refine pl_done ?_; refine hK7.out _ _ ?_; (try clear hK7 K7); refine wk_seq (fun K8 hK8 => ?_); refine wk_reg ?_; (iterate 2 (refine pl_take (v := ?_) rfl ?_ ?_; rotate_left; (· (go_simp; first | done | with_reducible rfl | rfl | omega | assumption | (simp; omega))); (try simp only [Act.put, aP, aZ, aS]))); refine pl_eff rfl (fun Kp hKp => ?_); ((with_reducible apply st_buildSlice); assumption; rfl; (go_simp; rfl); (simp [Value.cells]); omega; intro b28 w28 hs28); refine hKp.out _ _ ?_; clear hKp Kp; (try simp only [Act.put, aP, aZ, aS]); refine pl_eff rfl (fun Kp hKp => ?_); go_simp; (refine (hN _ _ _ (by assumption) Rd.own).mono ?_; rintro e29 w29 ⟨B29, c29, rfl, hs29⟩); (try go_wp2_with fail); refine hKp.out _ _ ?_; clear hKp Kp; (try simp only [Act.put, aP, aZ, aS]); refine pl_take (v := ?_) rfl ?_ ?_; rotate_left; (· (go_simp; first | done | with_reducible rfl | rfl | omega | assumption | (simp; omega))); (try simp only [Act.put, aP, aZ, aS]); refine pl_eff rfl (fun Kp hKp => ?_); ((with_reducible apply st_buildSlice); assumption; rfl; (go_simp; rfl); (simp [Value.cells]); omega; intro b31 w31 hs31); refine hKp.out _ _ ?_; clear hKp Kp; (try simp only [Act.put, aP, aZ, aS]); refine pl_eff rfl (fun Kp hKp => ?_); go_simp; (refine (join_spec (c := 2) (n := 2) [X, Y] Z Hj'.out (by omega) (by omega) (by assumption) (RdBB.pair Rd.own (by (repeat (first | with_reducible assumption | with_reducible exact Rd.own | with_reducible exact Rd.nil | with_reducible apply Rd.cons))) (by (repeat (first | with_reducible assumption | with_reducible exact Rd.own | with_reducible exact Rd.nil | with_reducible apply Rd.cons))))).mono ?_; rintro e32 w32 ⟨B32, c32, rfl, hs32⟩); (try go_wp2_with fail); refine hKp.out _ _ ?_; clear hKp Kp; (try simp only [Act.put, aP, aZ, aS]); (iterate 2 (refine pl_take (v := ?_) rfl ?_ ?_; rotate_left; (· (go_simp; first | done | with_reducible rfl | rfl | omega | assumption | (simp; omega))); (try simp only [Act.put, aP, aZ, aS]))); refine pl_done ?_; refine hK8.out _ _ ?_; (try clear hK8 K8); refine wp_ret ?_
        go_ret2
        exact ⟨B32, c32, rfl, (by assumption : Sat w0 _ _).pick (by (repeat (first | exact Pick.nil _ | exact Pick.tail _ | exact Out.here _ | apply Out.there | apply Pick.cons | apply Pick.drop)))⟩
end Go.Proofs.Ytdlimjcidblneaa
