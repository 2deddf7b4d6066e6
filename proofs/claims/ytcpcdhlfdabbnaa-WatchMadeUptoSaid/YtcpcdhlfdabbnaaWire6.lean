/-
  wire.Reader: what it holds, Number.
-/
import Derived.Test.YtcpcdhlfdabbnaaWire5
import Derived.Shelf.Abstract
namespace Go.Proofs.Ytcpcdhlfdabbnaa
open Go Go.RowKit Sl Go.Shelf
attribute [local go_sem] Oper.semAt_some

def val : List UInt8 → Nat
  | [] => 0
  | c :: l => c.toNat + 256 * val l

/-- What Number does at the first error e and the bytes l that are left: its answer, the error, what is left. -/
def rdNumber (e : Int) (l : List UInt8) : Int × Int × List UInt8 :=
  if e ≠ 0 then (0, e, l) else
  match l with
  | [] => (0, 20, [])
  | c :: r =>
    if 6 < c.toNat then (0, 21, l)
    else if r.length < c.toNat then (0, 20, l)
    else if 0 < c.toNat ∧ r[c.toNat - 1]? = some 0 then (0, 21, l)
    else ((val (r.take c.toNat) : Int), 0, r.drop c.toNat)

/-- A reader at p, whose bytes lie in buf: the first error, the bytes that are left. -/
def Rd1 (buf : HP) (p : Nat) (e : Int) (l : List UInt8) : HP := fun h => ∃ x : Option Addr × Nat, (l.length ≤ x.2 ∧ ∀ w0 L, Rd w0 (buf :: L) x.1 l.length 1 (B8 l)) ∧ blk p (.cells #[.int .i64 e, .slice x.1 l.length x.2, .bool true] 124 (0, 0)) h

theorem Rd1.opened {w0 w : World} {L : List HP} {buf : HP} {p : Nat} {e : Int} {l : List UInt8} (h : Sat w0 w (Rd1 buf p e l :: L)) :
    ∃ (A : Option Addr) (c : Nat), l.length ≤ c ∧ (∀ w0 L, Rd w0 (buf :: L) A l.length 1 (B8 l)) ∧ Sat w0 w (blk p (.cells #[.int .i64 e, .slice A l.length c, .bool true] 124 (0, 0)) :: L) := by
  obtain ⟨⟨A, c⟩, h1⟩ := h.ex
  obtain ⟨⟨h2, h3⟩, h4⟩ := h1.pure
  exact ⟨A, c, h2, h3, h4⟩

theorem Rd1.made {w0 w : World} {L : List HP} {p : Nat} {e : Int} {l : List UInt8} {A : Option Addr} {c n : Nat} {buf : HP} (hn : n = l.length) (h1 : l.length ≤ c) (h2 : ∀ w0 L, Rd w0 (buf :: L) A l.length 1 (B8 l))
    (h : Sat w0 w (blk p (.cells #[.int .i64 e, .slice A n c, .bool true] 124 (0, 0)) :: L)) : Sat w0 w (Rd1 buf p e l :: L) := by
  subst hn
  exact h.to_head fun _ hb => ⟨(A, c), ⟨h1, h2⟩, hb⟩

theorem none_spec {w0 w : World} {L L' : List HP} {p : Nat} {v0 v1 : Value} {b : Bool} {T : TypeId} (hs : Sat w0 w L) (ho : Out (blk p (.cells #[v0, v1, .bool b] T (0, 0))) L L') :
    Calls Try.prog 89 #[.pointer (some ⟨p, 0, none⟩)] w fun r w' => r = .returned (.bool (!b)) ∧ w = w' := by
  have hc : Cl w0 L ⟨p, 2, none⟩ (.bool b) := fun w hs => by
    have := hs.get ho
    simp [World.cell?, this]
  go_enter Try.func89, Try.ntmps89
  go_wp2_with (first | ((with_reducible apply wl_unguard); rfl) | ((with_reducible apply wl_buildSlice); assumption; rfl; (go_simp; rfl); (simp [Value.cells]); omega; intro b w1 hs1) | ((with_reducible apply wl_append); go_must (assumption; rfl; rfl; (repeat (first | exact Out.here _ | apply Out.there)); (repeat (first | assumption | exact Rd.own | exact Rd.nil | apply Rd.cons)); (first | exact B8_one _ | exact I8_one _ | (simp [Value.oneCell'])); (first | omega | (simp only [maxLen]; omega)); omega; intro A1 c1 w1 hs1 hc1; (try ((refine hs1.own_elim ?_ ?_); omega; rintro g1 rfl)); try simp only [Nat.zero_add, List.nil_append] at hs1 hc1)) | ((with_reducible apply wl_store_own); assumption; rfl; (go_simp; rfl); (repeat (first | exact Out.here _ | apply Out.there)); rfl; rfl; omega; intro w1 hs1) | ((with_reducible apply wl_store1); assumption; rfl; (go_simp; rfl); (repeat (first | exact Out.here _ | apply Out.there)); rfl; rfl; simp; intro w1 hs1; (try simp only [List.setIfInBounds_toArray] at hs1); (try simp only [List.set_cons_succ] at hs1); (try simp only [List.set_cons_zero] at hs1)) | ((with_reducible apply wl_load); assumption; rfl; (repeat (first | assumption | exact Cl.blk rfl | apply Cl.cons))) | ((with_reducible apply wl_b2s); assumption; rfl; (repeat (first | assumption | exact Rd.own | exact Rd.nil | apply Rd.cons)); first | rfl | (simp [B8_app])))
  go_ret
  exact ⟨rfl, rfl⟩

/-- It has answered x, and the reader stands so. -/
def RetN (w0 : World) (L : List HP) (buf : HP) (p : Nat) (x : Int × Int × List UInt8) (r : Ending) (w' : World) : Prop := r = .returned (.int .i64 x.1) ∧ Sat w0 w' (Rd1 buf p x.2.1 x.2.2 :: buf :: L)

theorem val_lt (l : List UInt8) : val l < 256 ^ l.length := by
  induction l with
  | nil => simp [val]
  | cons c l ih => have := c.toNat_lt; simp only [val, List.length_cons, Nat.pow_succ]; omega

theorem nothing {w0 w : World} {L : List HP} (h : Sat w0 w ((fun _ => False) :: L)) : False :=
  ((h.to_head (q := fun _ => False ∧ False) fun _ h => h.elim).pure (P := fun _ => False)).1

theorem bits_or_i64 (v u : Nat) (hv : v < 256 ^ 5) (hu : u < 256) : bits .or .i64 ((v : Int) * 256) (u : Int) = ((u + 256 * v : Nat) : Int) := by
  have h0 : v * 256 ||| u = u + 256 * v := by
    have := Nat.shiftLeft_add_eq_or_of_lt (a := v) (b := u) (i := 8) (by omega)
    rw [Nat.shiftLeft_eq] at this
    simp only [Nat.reducePow] at this
    rw [← this]; omega
  have e : ((v : Int) * 256) = ((v * 256 : Nat) : Int) := by simp
  have h1 : (BitVec.ofInt 64 ((v * 256 : Nat) : Int)).toNat = v * 256 := by
    rw [BitVec.ofInt_natCast, BitVec.toNat_ofNat]; exact Nat.mod_eq_of_lt (by omega)
  have h2 : (BitVec.ofInt 64 (u : Int)).toNat = u := by
    rw [BitVec.ofInt_natCast, BitVec.toNat_ofNat]; exact Nat.mod_eq_of_lt (by omega)
  rw [e]
  show IntKind.i64.wrap ((BitVec.ofInt 64 ((v * 256 : Nat) : Int) ||| BitVec.ofInt 64 (u : Int)).toNat : Int) = _
  rw [BitVec.toNat_or, h1, h2, h0]
  simp [IntKind.wrap, IntKind.bits, IntKind.signed]; omega

set_option maxHeartbeats 2000000 in
theorem number_read {w0 w : World} {L : List HP} {buf : HP} {p : Nat} (e : Int) (l : List UInt8) (hl : l.length ≤ 4294967296) (hs : Sat w0 w (Rd1 buf p e l :: buf :: L)) :
    Calls Try.prog 73 #[.pointer (some ⟨p, 0, none⟩)] w (RetN w0 L buf p (rdNumber e l)) := by
  obtain ⟨A, c, hc, hR, hs1⟩ := Rd1.opened hs
  clear hs
  by_cases he : e ≠ 0
  · have e1 : rdNumber e l = (0, e, l) := by unfold rdNumber; rw [if_pos he]
    have h0 : (e == 0) = false := by simp [he]
    rw [e1]; clear e1 he
    (refine calls_of_marks Try.func73 rfl ?_; simp only [Try.ntmps73, List.size_toArray, List.length_cons, List.length_nil, Nat.reduceAdd, Nat.reduceSub, Array.replicate_succ, Array.replicate_zero, List.push_toArray, List.append_toArray, List.nil_append, List.cons_append])
    go_wp2_with (first | (go_at_call 89; refine (none_spec hs1 (.here _)).mono ?_; rintro e' w' ⟨rfl, rfl⟩) | (go_at_call 90; refine (fok_spec hs1 (.here _) rfl).mono ?_; rintro e' w' ⟨rfl, rfl⟩) | (first | ((with_reducible apply wl_unguard); rfl) | ((with_reducible apply wl_buildSlice); assumption; rfl; (go_simp; rfl); (simp [Value.cells]); omega; intro b w1 hs1) | ((with_reducible apply wl_append); go_must (assumption; rfl; rfl; (repeat (first | exact Out.here _ | apply Out.there)); (repeat (first | assumption | exact Rd.own | exact Rd.nil | apply Rd.cons)); (first | exact B8_one _ | exact I8_one _ | (simp [Value.oneCell'])); (first | omega | (simp only [maxLen]; omega)); omega; intro A1 c1 w1 hs1 hc1; (try ((refine hs1.own_elim ?_ ?_); omega; rintro g1 rfl)); try simp only [Nat.zero_add, List.nil_append] at hs1 hc1)) | ((with_reducible apply wl_store_own); assumption; rfl; (go_simp; rfl); (repeat (first | exact Out.here _ | apply Out.there)); rfl; rfl; omega; intro w1 hs1) | ((with_reducible apply wl_store1); assumption; rfl; (go_simp; rfl); (repeat (first | exact Out.here _ | apply Out.there)); rfl; rfl; simp; intro w1 hs1; (try simp only [List.setIfInBounds_toArray] at hs1); (try simp only [List.set_cons_succ] at hs1); (try simp only [List.set_cons_zero] at hs1)) | ((with_reducible apply wl_load); assumption; rfl; (repeat (first | assumption | exact Cl.blk rfl | apply Cl.cons))) | ((with_reducible apply wl_b2s); assumption; rfl; (repeat (first | assumption | exact Rd.own | exact Rd.nil | apply Rd.cons)); first | rfl | (simp [B8_app]))) | fail)
    exact leave_plain (results_tmp rfl _ _ _) ⟨rfl, Rd1.made rfl hc hR hs1⟩
  · obtain rfl : e = 0 := by omega
    clear he
    cases l with
    | nil =>
      have e1 : rdNumber 0 [] = (0, 20, []) := by simp [rdNumber]
      rw [e1]; clear e1
      simp only [List.length_nil] at hs1 hc hR
      (refine calls_of_marks Try.func73 rfl ?_; simp only [Try.ntmps73, List.size_toArray, List.length_cons, List.length_nil, Nat.reduceAdd, Nat.reduceSub, Array.replicate_succ, Array.replicate_zero, List.push_toArray, List.append_toArray, List.nil_append, List.cons_append])
      go_wp2_with (first | (go_at_call 89; refine (none_spec hs1 (.here _)).mono ?_; rintro e' w' ⟨rfl, rfl⟩) | (go_at_call 90; refine (fok_spec hs1 (.here _) rfl).mono ?_; rintro e' w' ⟨rfl, rfl⟩) | (go_at_call 91; refine (fset_spec hs1 (.here _)).mono ?_; rintro e' w2 ⟨rfl, hs2⟩; simp only [if_true] at hs2) | (first | ((with_reducible apply wl_unguard); rfl) | ((with_reducible apply wl_buildSlice); assumption; rfl; (go_simp; rfl); (simp [Value.cells]); omega; intro b w1 hs1) | ((with_reducible apply wl_append); go_must (assumption; rfl; rfl; (repeat (first | exact Out.here _ | apply Out.there)); (repeat (first | assumption | exact Rd.own | exact Rd.nil | apply Rd.cons)); (first | exact B8_one _ | exact I8_one _ | (simp [Value.oneCell'])); (first | omega | (simp only [maxLen]; omega)); omega; intro A1 c1 w1 hs1 hc1; (try ((refine hs1.own_elim ?_ ?_); omega; rintro g1 rfl)); try simp only [Nat.zero_add, List.nil_append] at hs1 hc1)) | ((with_reducible apply wl_store_own); assumption; rfl; (go_simp; rfl); (repeat (first | exact Out.here _ | apply Out.there)); rfl; rfl; omega; intro w1 hs1) | ((with_reducible apply wl_store1); assumption; rfl; (go_simp; rfl); (repeat (first | exact Out.here _ | apply Out.there)); rfl; rfl; simp; intro w1 hs1; (try simp only [List.setIfInBounds_toArray] at hs1); (try simp only [List.set_cons_succ] at hs1); (try simp only [List.set_cons_zero] at hs1)) | ((with_reducible apply wl_load); assumption; rfl; (repeat (first | assumption | exact Cl.blk rfl | apply Cl.cons))) | ((with_reducible apply wl_b2s); assumption; rfl; (repeat (first | assumption | exact Rd.own | exact Rd.nil | apply Rd.cons)); first | rfl | (simp [B8_app]))) | fail)
      exact leave_plain (results_tmp rfl _ _ _) ⟨rfl, Rd1.made rfl hc hR hs2⟩
    | cons c0 r =>
      obtain ⟨q0, off, rfl⟩ := (hR w0 L).some_of hs1.tail (by simp)
      have hcl : ∀ (k : Nat) (u : UInt8), (c0 :: r)[k]? = some u → Cl w0 (blk p (.cells #[.int .i64 0, .slice (some ⟨q0, off, none⟩) (c0 :: r).length c, .bool true] 124 (0, 0)) :: buf :: L) ⟨q0, off + k, none⟩ (b8 u) := fun k u hu => ((hR w0 L).elt (k := k) (u := b8 u) (by rw [B8, List.getElem?_map, hu]; rfl)).cons
      have hc0 := hcl 0 c0 rfl
      have hlen : (c0 :: r).length = r.length + 1 := rfl
      rw [hlen] at hs1 hcl hc0
      have Hlen : Hid ((c0 :: r).length = r.length + 1) := hlen
      have hb0 := c0.toNat_lt
      have hl1 : r.length + 1 ≤ 4294967296 := by rw [← hlen]; exact hl
      clear hlen hl
      unfold b8 at hc0
      by_cases h6 : 6 < c0.toNat
      · have e1 : rdNumber 0 (c0 :: r) = (0, 21, c0 :: r) := by simp [rdNumber, h6]
        rw [e1]; clear e1 hcl
        (refine calls_of_marks Try.func73 rfl ?_; simp only [Try.ntmps73, List.size_toArray, List.length_cons, List.length_nil, Nat.reduceAdd, Nat.reduceSub, Array.replicate_succ, Array.replicate_zero, List.push_toArray, List.append_toArray, List.nil_append, List.cons_append])
        go_wp2_with (first | (go_at_call 89; refine (none_spec hs1 (.here _)).mono ?_; rintro e' w' ⟨rfl, rfl⟩) | (go_at_call 90; refine (fok_spec hs1 (.here _) rfl).mono ?_; rintro e' w' ⟨rfl, rfl⟩) | (go_at_call 91; refine (fset_spec hs1 (.here _)).mono ?_; rintro e' w2 ⟨rfl, hs2⟩; simp only [if_true] at hs2) | (first | ((with_reducible apply wl_unguard); rfl) | ((with_reducible apply wl_buildSlice); assumption; rfl; (go_simp; rfl); (simp [Value.cells]); omega; intro b w1 hs1) | ((with_reducible apply wl_append); go_must (assumption; rfl; rfl; (repeat (first | exact Out.here _ | apply Out.there)); (repeat (first | assumption | exact Rd.own | exact Rd.nil | apply Rd.cons)); (first | exact B8_one _ | exact I8_one _ | (simp [Value.oneCell'])); (first | omega | (simp only [maxLen]; omega)); omega; intro A1 c1 w1 hs1 hc1; (try ((refine hs1.own_elim ?_ ?_); omega; rintro g1 rfl)); try simp only [Nat.zero_add, List.nil_append] at hs1 hc1)) | ((with_reducible apply wl_store_own); assumption; rfl; (go_simp; rfl); (repeat (first | exact Out.here _ | apply Out.there)); rfl; rfl; omega; intro w1 hs1) | ((with_reducible apply wl_store1); assumption; rfl; (go_simp; rfl); (repeat (first | exact Out.here _ | apply Out.there)); rfl; rfl; simp; intro w1 hs1; (try simp only [List.setIfInBounds_toArray] at hs1); (try simp only [List.set_cons_succ] at hs1); (try simp only [List.set_cons_zero] at hs1)) | ((with_reducible apply wl_load); assumption; rfl; (repeat (first | assumption | exact Cl.blk rfl | apply Cl.cons))) | ((with_reducible apply wl_b2s); assumption; rfl; (repeat (first | assumption | exact Rd.own | exact Rd.nil | apply Rd.cons)); first | rfl | (simp [B8_app]))) | fail)
        exact leave_plain (results_tmp rfl _ _ _) ⟨rfl, Rd1.made Hlen.out.symm hc hR hs2⟩
      by_cases h7 : r.length < c0.toNat
      · have e1 : rdNumber 0 (c0 :: r) = (0, 20, c0 :: r) := by simp [rdNumber, h6, h7]
        rw [e1]; clear e1 hcl
        (refine calls_of_marks Try.func73 rfl ?_; simp only [Try.ntmps73, List.size_toArray, List.length_cons, List.length_nil, Nat.reduceAdd, Nat.reduceSub, Array.replicate_succ, Array.replicate_zero, List.push_toArray, List.append_toArray, List.nil_append, List.cons_append])
        go_wp2_with (first | (go_at_call 89; refine (none_spec hs1 (.here _)).mono ?_; rintro e' w' ⟨rfl, rfl⟩) | (go_at_call 90; refine (fok_spec hs1 (.here _) rfl).mono ?_; rintro e' w' ⟨rfl, rfl⟩) | (go_at_call 91; refine (fset_spec hs1 (.here _)).mono ?_; rintro e' w2 ⟨rfl, hs2⟩; simp only [if_true] at hs2) | (first | ((with_reducible apply wl_unguard); rfl) | ((with_reducible apply wl_buildSlice); assumption; rfl; (go_simp; rfl); (simp [Value.cells]); omega; intro b w1 hs1) | ((with_reducible apply wl_append); go_must (assumption; rfl; rfl; (repeat (first | exact Out.here _ | apply Out.there)); (repeat (first | assumption | exact Rd.own | exact Rd.nil | apply Rd.cons)); (first | exact B8_one _ | exact I8_one _ | (simp [Value.oneCell'])); (first | omega | (simp only [maxLen]; omega)); omega; intro A1 c1 w1 hs1 hc1; (try ((refine hs1.own_elim ?_ ?_); omega; rintro g1 rfl)); try simp only [Nat.zero_add, List.nil_append] at hs1 hc1)) | ((with_reducible apply wl_store_own); assumption; rfl; (go_simp; rfl); (repeat (first | exact Out.here _ | apply Out.there)); rfl; rfl; omega; intro w1 hs1) | ((with_reducible apply wl_store1); assumption; rfl; (go_simp; rfl); (repeat (first | exact Out.here _ | apply Out.there)); rfl; rfl; simp; intro w1 hs1; (try simp only [List.setIfInBounds_toArray] at hs1); (try simp only [List.set_cons_succ] at hs1); (try simp only [List.set_cons_zero] at hs1)) | ((with_reducible apply wl_load); assumption; rfl; (repeat (first | assumption | exact Cl.blk rfl | apply Cl.cons))) | ((with_reducible apply wl_b2s); assumption; rfl; (repeat (first | assumption | exact Rd.own | exact Rd.nil | apply Rd.cons)); first | rfl | (simp [B8_app]))) | fail)
        exact leave_plain (results_tmp rfl _ _ _) ⟨rfl, Rd1.made Hlen.out.symm hc hR hs2⟩
      obtain ⟨n, hn⟩ : ∃ n, n = c0.toNat := ⟨_, rfl⟩
      rw [← hn] at h6 h7 hc0
      have hn6 : n ≤ 6 := by omega
      have hnr : n ≤ r.length := by omega
      have hcc : r.length + 1 ≤ c := by have := Hlen.out; omega
      by_cases h8 : 0 < n ∧ r[n - 1]? = some 0
      · have e1 : rdNumber 0 (c0 :: r) = (0, 21, c0 :: r) := by simp [rdNumber, ← hn, h6, h7, h8]
        rw [e1]
        have hcn := hcl n 0 (by obtain ⟨m, rfl⟩ : ∃ m, n = m + 1 := ⟨n - 1, by omega⟩; simpa using h8.2)
        have h9 : 0 < n := h8.1
        rw [show b8 0 = .int .u8 0 from rfl] at hcn
        clear e1 hcl hn h8
        (refine calls_of_marks Try.func73 rfl ?_; simp only [Try.ntmps73, List.size_toArray, List.length_cons, List.length_nil, Nat.reduceAdd, Nat.reduceSub, Array.replicate_succ, Array.replicate_zero, List.push_toArray, List.append_toArray, List.nil_append, List.cons_append])
        go_wp2_with (first | (go_at_call 89; refine (none_spec hs1 (.here _)).mono ?_; rintro e' w' ⟨rfl, rfl⟩) | (go_at_call 90; refine (fok_spec hs1 (.here _) rfl).mono ?_; rintro e' w' ⟨rfl, rfl⟩) | (go_at_call 91; refine (fset_spec hs1 (.here _)).mono ?_; rintro e' w2 ⟨rfl, hs2⟩; simp only [if_true] at hs2) | (first | ((with_reducible apply wl_unguard); rfl) | ((with_reducible apply wl_buildSlice); assumption; rfl; (go_simp; rfl); (simp [Value.cells]); omega; intro b w1 hs1) | ((with_reducible apply wl_append); go_must (assumption; rfl; rfl; (repeat (first | exact Out.here _ | apply Out.there)); (repeat (first | assumption | exact Rd.own | exact Rd.nil | apply Rd.cons)); (first | exact B8_one _ | exact I8_one _ | (simp [Value.oneCell'])); (first | omega | (simp only [maxLen]; omega)); omega; intro A1 c1 w1 hs1 hc1; (try ((refine hs1.own_elim ?_ ?_); omega; rintro g1 rfl)); try simp only [Nat.zero_add, List.nil_append] at hs1 hc1)) | ((with_reducible apply wl_store_own); assumption; rfl; (go_simp; rfl); (repeat (first | exact Out.here _ | apply Out.there)); rfl; rfl; omega; intro w1 hs1) | ((with_reducible apply wl_store1); assumption; rfl; (go_simp; rfl); (repeat (first | exact Out.here _ | apply Out.there)); rfl; rfl; simp; intro w1 hs1; (try simp only [List.setIfInBounds_toArray] at hs1); (try simp only [List.set_cons_succ] at hs1); (try simp only [List.set_cons_zero] at hs1)) | ((with_reducible apply wl_load); assumption; rfl; (repeat (first | assumption | exact Cl.blk rfl | apply Cl.cons))) | ((with_reducible apply wl_b2s); assumption; rfl; (repeat (first | assumption | exact Rd.own | exact Rd.nil | apply Rd.cons)); first | rfl | (simp [B8_app]))) | fail)
        exact leave_plain (results_tmp rfl _ _ _) ⟨rfl, Rd1.made Hlen.out.symm hc hR hs2⟩
      have e1 : rdNumber 0 (c0 :: r) = ((val (r.take n) : Int), 0, r.drop n) := by simp [rdNumber, ← hn, h6, h7, h8]
      rw [e1]
      refine dite (0 < n) (fun h9 => ?_) (fun h9 => ?_)
      all_goals first
        | (obtain ⟨u, hu⟩ : ∃ u, r[n - 1]? = some u := ⟨r[n - 1]'(by omega), List.getElem?_eq_getElem (by omega)⟩
           have hu0 : u ≠ 0 := fun h => h8 ⟨h9, by rw [hu, h]⟩
           have hcn := hcl n u (by obtain ⟨m, rfl⟩ : ∃ m, n = m + 1 := ⟨n - 1, by omega⟩; simpa using hu)
           have hu1 : ((u.toNat : Int) == 0) = false := by
             have : u.toNat ≠ 0 := fun h => hu0 (UInt8.toNat_inj.1 (by simpa using h))
             simpa using this
           unfold b8 at hcn
           clear e1 hcl hn h8 hu hu0)
        | (have h9' := h9; clear e1 hcl hn h8)
      all_goals
        (refine calls_of_marks Try.func73 rfl ?_; simp only [Try.ntmps73, List.size_toArray, List.length_cons, List.length_nil, Nat.reduceAdd, Nat.reduceSub, Array.replicate_succ, Array.replicate_zero, List.push_toArray, List.append_toArray, List.nil_append, List.cons_append])
        go_wp2_with (first | (go_at_call 89; refine (none_spec hs1 (.here _)).mono ?_; rintro e' w' ⟨rfl, rfl⟩) | (go_at_call 90; refine (fok_spec hs1 (.here _) rfl).mono ?_; rintro e' w' ⟨rfl, rfl⟩) | ((with_reducible apply wl_alloc); assumption; intro b w1 hs1; simp only [Value.cells] at hs1) | ((with_reducible apply wl_sliceLH (l := 1) (k := n + 1)); go_must (rfl; rfl; rfl; (simp); omega; omega; omega; omega; intro A1 hw1)) | (go_at_call 92; refine (backward_spec (by assumption)).mono ?_; rintro e' w3 ⟨bb, rfl, hs3⟩) | (first | ((with_reducible apply wl_unguard); rfl) | ((with_reducible apply wl_buildSlice); assumption; rfl; (go_simp; rfl); (simp [Value.cells]); omega; intro b w1 hs1) | ((with_reducible apply wl_append); go_must (assumption; rfl; rfl; (repeat (first | exact Out.here _ | apply Out.there)); (repeat (first | assumption | exact Rd.own | exact Rd.nil | apply Rd.cons)); (first | exact B8_one _ | exact I8_one _ | (simp [Value.oneCell'])); (first | omega | (simp only [maxLen]; omega)); omega; intro A1 c1 w1 hs1 hc1; (try ((refine hs1.own_elim ?_ ?_); omega; rintro g1 rfl)); try simp only [Nat.zero_add, List.nil_append] at hs1 hc1)) | ((with_reducible apply wl_store_own); assumption; rfl; (go_simp; rfl); (repeat (first | exact Out.here _ | apply Out.there)); rfl; rfl; omega; intro w1 hs1) | ((with_reducible apply wl_store1); assumption; rfl; (go_simp; rfl); (repeat (first | exact Out.here _ | apply Out.there)); rfl; rfl; simp; intro w1 hs1; (try simp only [List.setIfInBounds_toArray] at hs1); (try simp only [List.set_cons_succ] at hs1); (try simp only [List.set_cons_zero] at hs1)) | ((with_reducible apply wl_load); assumption; rfl; (repeat (first | assumption | exact Cl.blk rfl | apply Cl.cons))) | ((with_reducible apply wl_b2s); assumption; rfl; (repeat (first | assumption | exact Rd.own | exact Rd.nil | apply Rd.cons)); first | rfl | (simp [B8_app]))) | fail)
        have hseg : (r.take n).length = n := by simp; omega
        have hRs : Rd w0 (blk p (.cells #[.int .i64 0, .slice (some ⟨q0, off, none⟩) (r.length + 1) c, .bool true] 124 (0, 0)) :: buf :: L) A1 n 1 (B8 (r.take n)) := by
          have := hw1 _ _ _ ((hR w0 L).cons (p := blk p (.cells #[.int .i64 0, .slice (some ⟨q0, off, none⟩) (r.length + 1) c, .bool true] 124 (0, 0))))
          simpa [B8] using this
        refine wl_rangeFunc (w0 := w0) (T := blk bb (.cells #[.slice A1 n (c - 1)] 44 (0, 0))) (L := blk p (.cells #[.int .i64 0, .slice (some ⟨q0, off, none⟩) (r.length + 1) c, .bool true] 124 (0, 0)) :: buf :: L) (xs := back (r.take n)) rfl (enters_of Try.func96 (by kernel_rfl) rfl) (backward_seq' (r.take n) hseg.symm (by omega) hRs) ?_
          (fun k => blk b (.cells #[.int .i64 (val ((r.take n).drop (n - k)) : Int)] 3 (0, 0))) (fun _ _ _ => False) ?_ ?_ ?_ ?_
        · intro x hx
          obtain ⟨k, hk⟩ := List.getElem?_of_mem hx
          obtain ⟨j, u, _, _, rfl⟩ := back_inv _ _ _ hk
          rfl
        · rw [Nat.sub_zero, List.drop_of_length_le (by omega)]
          exact hs3.pick (.cons (.there _ _ _ (.here _)) (.tail _))
        · intro lp k x W M hx hE hsW
          obtain ⟨j, u, hj, hu, rfl⟩ := back_inv _ _ _ hx
          gi_wp2
          refine ⟨_, hsW, fun W2 M' hE' hs2 => ?_⟩
          have hkn : k + 1 + j = n := by omega
          have hd := drop_at (r.take n) j u hu
          have hj1 : j + 1 = n - k := by omega
          have hj2 : j = n - (k + 1) := by omega
          rw [hj1, hj2] at hd
          have hvs : val ((r.take n).drop (n - (k + 1))) = u.toNat + 256 * val ((r.take n).drop (n - k)) := by rw [hd]; rfl
          have hvl := val_lt ((r.take n).drop (n - k))
          rw [show ((r.take n).drop (n - k)).length = k from by simp; omega] at hvl
          have hvb : val ((r.take n).drop (n - k)) < 256 ^ 5 := Nat.lt_of_lt_of_le hvl (Nat.pow_le_pow_right (by omega) (by omega))
          have Hvs : Hid (val ((r.take n).drop (n - (k + 1))) = u.toNat + 256 * val ((r.take n).drop (n - k))) := hvs
          have hub := u.toNat_lt
          clear hvs hvl hd hj1 hj2 hu hj hx hs1 hs3
          generalize val ((r.take n).drop (n - k)) = v at hvb hs2 Hvs
          generalize hv2 : val ((r.take n).drop (n - (k + 1))) = v2 at Hvs
          have Hv2 : Hid (val ((r.take n).drop (n - (k + 1))) = v2) := hv2
          clear hv2
          unfold b8
          gi_wp2_with (first | ((with_reducible apply wi_unguard); rfl) | ((with_reducible apply wi_buildSlice); assumption; rfl; (go_simp; rfl); (simp [Value.cells]); omega; intro b w1 hs1) | ((with_reducible apply wi_append); go_must (assumption; rfl; rfl; (repeat (first | exact Out.here _ | apply Out.there)); (repeat (first | assumption | exact Rd.own | exact Rd.nil | apply Rd.cons)); (first | exact B8_one _ | exact I8_one _ | (simp [Value.oneCell'])); (first | omega | (simp only [maxLen]; omega)); omega; intro A1 c1 w1 hs1 hc1; (try ((refine hs1.own_elim ?_ ?_); omega; rintro g1 rfl)); try simp only [Nat.zero_add, List.nil_append] at hs1 hc1)) | ((with_reducible apply wi_store_own); assumption; rfl; (go_simp; rfl); (repeat (first | exact Out.here _ | apply Out.there)); rfl; rfl; omega; intro w1 hs1) | ((with_reducible apply wi_store1); assumption; rfl; (go_simp; rfl); (repeat (first | exact Out.here _ | apply Out.there)); rfl; rfl; simp; intro w1 hs1; (try simp only [List.setIfInBounds_toArray] at hs1); (try simp only [List.set_cons_succ] at hs1); (try simp only [List.set_cons_zero] at hs1)) | ((with_reducible apply wi_load); assumption; rfl; (repeat (first | assumption | exact Cl.blk rfl | apply Cl.cons))) | ((with_reducible apply wi_b2s); assumption; rfl; (repeat (first | assumption | exact Rd.own | exact Rd.nil | apply Rd.cons)); first | rfl | (simp [B8_app])))
          rw [bits_or_i64 v u.toNat hvb hub, ← Hvs.out, ← Hv2.out] at hs1
          exact hs1
        · intro D W hsW
          rw [back_length, hseg, Nat.sub_self, List.drop_zero] at hsW
          clear hs1 hs3
          go_wp2_with (first | ((with_reducible apply wl_sliceLo (l := n + 1)); go_must (rfl; rfl; (simp); omega; omega; intro A2 hw2)) | (first | ((with_reducible apply wl_unguard); rfl) | ((with_reducible apply wl_buildSlice); assumption; rfl; (go_simp; rfl); (simp [Value.cells]); omega; intro b w1 hs1) | ((with_reducible apply wl_append); go_must (assumption; rfl; rfl; (repeat (first | exact Out.here _ | apply Out.there)); (repeat (first | assumption | exact Rd.own | exact Rd.nil | apply Rd.cons)); (first | exact B8_one _ | exact I8_one _ | (simp [Value.oneCell'])); (first | omega | (simp only [maxLen]; omega)); omega; intro A1 c1 w1 hs1 hc1; (try ((refine hs1.own_elim ?_ ?_); omega; rintro g1 rfl)); try simp only [Nat.zero_add, List.nil_append] at hs1 hc1)) | ((with_reducible apply wl_store_own); assumption; rfl; (go_simp; rfl); (repeat (first | exact Out.here _ | apply Out.there)); rfl; rfl; omega; intro w1 hs1) | ((with_reducible apply wl_store1); assumption; rfl; (go_simp; rfl); (repeat (first | exact Out.here _ | apply Out.there)); rfl; rfl; simp; intro w1 hs1; (try simp only [List.setIfInBounds_toArray] at hs1); (try simp only [List.set_cons_succ] at hs1); (try simp only [List.set_cons_zero] at hs1)) | ((with_reducible apply wl_load); assumption; rfl; (repeat (first | assumption | exact Cl.blk rfl | apply Cl.cons))) | ((with_reducible apply wl_b2s); assumption; rfl; (repeat (first | assumption | exact Rd.own | exact Rd.nil | apply Rd.cons)); first | rfl | (simp [B8_app]))) | fail)
          refine leave_mark (hs1.pick (.cons (.there _ _ _ (.here _)) (.tail _))) (fun w => results_tmp rfl _ _ _) fun w' h => ⟨rfl, Rd1.made (by simp) (by simp; omega) ?_ (h.pick (.cons (.here _) (.drop (.tail _))))⟩
          intro w0 L
          have := hw2 _ _ _ (hR w0 L)
          simpa [B8, List.take_of_length_le] using this
        · intro D W o k _ h
          exact (nothing h.tail).elim
end Go.Proofs.Ytcpcdhlfdabbnaa
