/-
  wire.Reader: its fault, New, slices.Clone, slices.Backward over bytes.
-/
import Derived.Test.YtdlimjcidblneaaWire4
import Derived.Test.YtdlimjcidblneaaRangeSl
import Derived.Shelf.Abstract
import Derived.Test.YtdlimjcidblneaaWk
namespace Go.Proofs.Ytdlimjcidblneaa
open Go Go.RowKit Sl
attribute [local go_sem] Oper.semAt_some

theorem fok_spec {w0 w : World} {L L' : List HP} {p : Nat} {cur : Array Value} {T : TypeId} {e : Int} (hs : Sat w0 w L) (ho : Out (blk p (.cells cur T (0, 0))) L L') (h0 : cur[0]? = some (.int .i64 e)) :
    Calls Try.prog 71 #[.pointer (some ⟨p, 0, none⟩)] w fun r w' => r = .returned (.bool (e == 0)) ∧ w = w' := by
  have hc : Cl w0 L ⟨p, 0, none⟩ (.int .i64 e) := fun w hs => by
    have := hs.get ho
    simp [World.cell?, this, h0]
  go_enter Try.func71, Try.ntmps71
  go_wp2_with ((with_reducible apply wl_load); assumption; rfl; (repeat (first | assumption | exact Cl.blk rfl | apply Cl.cons)))
  go_ret
  exact ⟨rfl, rfl⟩

theorem fset_spec {w0 w : World} {L L' : List HP} {p : Nat} {T : TypeId} {e x : Int} {v1 v2 : Value} (hs : Sat w0 w L) (ho : Out (blk p (.cells #[.int .i64 e, v1, v2] T (0, 0))) L L') :
    Calls Try.prog 72 #[.pointer (some ⟨p, 0, none⟩), .int .i64 x] w fun r w' => r = .returned (.tuple #[]) ∧ Sat w0 w' (blk p (.cells #[.int .i64 (if e = 0 then x else e), v1, v2] T (0, 0)) :: L') := by
  have hc : Cl w0 L ⟨p, 0, none⟩ (.int .i64 e) := fun w hs => by
    have := hs.get ho
    simp [World.cell?, this]
  by_cases h0 : e = 0
  · rw [if_pos h0]
    have he : (e == 0) = true := by simp [h0]
    have H0 : Hid (e = 0) := h0
    clear h0
    go_enter Try.func72, Try.ntmps72
    go_wp2_with (first | ((with_reducible apply wl_load); assumption; rfl; (repeat (first | assumption | exact Cl.blk rfl | apply Cl.cons))) | ((with_reducible apply wl_store1); assumption; rfl; (go_simp; rfl); exact ho; rfl; rfl; simp; intro w1 hs1; simp only [List.setIfInBounds_toArray, List.set_cons_zero] at hs1))
    go_end0
    exact ⟨rfl, hs1⟩
  · rw [if_neg h0]
    have he : (e == 0) = false := by simp [h0]
    clear h0
    go_enter Try.func72, Try.ntmps72
    go_wp2_with ((with_reducible apply wl_load); assumption; rfl; (repeat (first | assumption | exact Cl.blk rfl | apply Cl.cons)))
    go_end0
    exact ⟨rfl, hs.out ho⟩

/-- slices.Clone of bytes. -/
theorem clone_spec {w0 w : World} {L : List HP} {A : Option Addr} {c : Nat} (l : List UInt8) (hl : l.length ≤ 4294967296) (hs : Sat w0 w L) (hR : Rd w0 L A l.length 1 (B8 l)) :
    Calls Try.prog 48 #[.slice A l.length c] w (RetS w0 L l) := by
  have h1 := fun (w : World) => Lib.run_eql_slice_nil (P := Try.prog) w 33 5 A l.length c 0 0 Try.underlying33
  cases A with
  | none =>
    obtain rfl : l = [] := List.eq_nil_of_length_eq_zero ((hR w hs).nil rfl)
    have h1 := fun (w : World) => Lib.run_eql_slice_nil (P := Try.prog) w 33 5 none 0 c 0 0 Try.underlying33
    simp only [Option.isNone_none] at h1
    go_enter Try.func48, Try.ntmps48
    go_wp2_with fail
    go_ret
    exact RetS.mk (hs.own_nil _ _) (by (repeat (first | exact Pick.nil _ | exact Pick.tail _ | exact Out.here _ | apply Out.there | apply Pick.cons | apply Pick.drop))) rfl rfl
  | some a =>
    simp only [Option.isNone_some] at h1
    go_enter Try.func48, Try.ntmps48
    go_wp2_with (first | ((with_reducible apply wl_buildSlice); assumption; rfl; (go_simp; rfl); (simp [Value.cells]); omega; intro b w1 hs1) | ((with_reducible apply wl_append); go_must (assumption; rfl; rfl; (repeat (first | exact Out.here _ | apply Out.there)); (repeat (first | assumption | exact Rd.own | exact Rd.nil | apply Rd.cons)); (first | exact B8_one _ | exact I8_one _ | (simp [Value.oneCell'])); (first | omega | (simp only [maxLen]; omega)); omega; intro A1 c1 w1 hs1 hc1; (try ((refine hs1.own_elim ?_ ?_); omega; rintro g1 rfl)); try simp only [Nat.zero_add, List.nil_append] at hs1 hc1)))
    go_ret
    exact RetS.mk hs1 (by (repeat (first | exact Pick.nil _ | exact Pick.tail _ | exact Out.here _ | apply Out.there | apply Pick.cons | apply Pick.drop))) rfl rfl

set_option maxHeartbeats 400000 in
theorem backward_spec {w0 w : World} {L : List HP} {A : Option Addr} {n c : Nat} (hs : Sat w0 w L) :
    Calls Try.prog 73 #[.slice A n c] w fun e w' => ∃ b, e = .returned (.func (.func 82) #[] #[.pointer (some ⟨b, 0, none⟩)]) ∧ Sat w0 w' (blk b (.cells #[.slice A n c] 33 (0, 0)) :: L) := by
  go_enter Try.func73, Try.ntmps73
  go_wp2_with ((with_reducible apply wl_box); assumption; (go_simp; rfl); intro b w1 hs1; simp only [Value.cells] at hs1)
  go_ret
  exact ⟨_, rfl, hs1⟩

def back (l : List UInt8) : List (Array Value) := (List.range l.length).map fun k => #[.int .i64 ((l.length - 1 - k : Nat) : Int), b8 (l.getD (l.length - 1 - k) 0)]

theorem back_length (l : List UInt8) : (back l).length = l.length := by simp [back]
theorem back_at (l : List UInt8) (k j : Nat) (c : UInt8) (h : l.length = k + 1 + j) (hc : l[j]? = some c) : (back l)[k]? = some #[.int .i64 (j : Int), b8 c] := by
  have e : l.length - 1 - k = j := by omega
  simp [back, List.getElem?_range (show k < l.length by omega), e, hc]

set_option maxHeartbeats 1000000 in
theorem backward_seq {w0 : World} {L : List HP} {A : Option Addr} {b c : Nat} (l : List UInt8) (hl : l.length ≤ 4294967296) (hR : Rd w0 L A l.length 1 (B8 l)) :
    Seq Try.prog 82 #[.pointer (some ⟨b, 0, none⟩)] w0 L (blk b (.cells #[.slice A l.length c] 33 (0, 0))) (back l) := by
  intro lp Inv Stop M w hY hE hs
  have hR' := hR.ent hE
  have hs1 : Sat w0 w (blk b (.cells #[.slice A l.length c] 33 (0, 0)) :: Inv 0 :: M) := hs.swap
  refine callsIn_of_wp Try.func82 rfl trivial ?_ rfl
  simp only [Try.ntmps82, List.size_toArray, List.length_cons, List.length_nil, Nat.reduceAdd, Nat.reduceSub, Array.replicate_succ, Array.replicate_zero, List.push_toArray, List.append_toArray, List.nil_append, List.cons_append]
  gi_wp2_with ((with_reducible apply wi_load); assumption; rfl; (repeat (first | assumption | exact Cl.blk rfl | apply Cl.cons)))
  gi_loopw [3] (fun i wr => ∃ (k : Nat) (j : Int), k ≤ l.length ∧ j = (l.length : Int) - 1 - (k : Int) ∧ i = .int .i64 j ∧ Sat w0 wr (blk b (.cells #[.slice A l.length c] 33 (0, 0)) :: Inv k :: M)) (fun i _ => (intOf i + 1).toNat)
  case atStart => exact ⟨0, _, Nat.zero_le _, rfl, by simp, hs1⟩
  case round =>
    obtain ⟨k, j, hk, hj, rfl, hs2⟩ := hrel
    clear hs hs1
    by_cases hlt : k < l.length
    · obtain ⟨j, rfl⟩ := Int.eq_ofNat_of_zero_le (show 0 ≤ j by omega)
      have hkj : l.length = k + 1 + j := by omega
      obtain ⟨ab, off, rfl⟩ := hR'.some_of hs2.tail.tail (by omega)
      obtain ⟨u, hu⟩ : ∃ u, l[j]? = some u := ⟨l[j]'(by omega), List.getElem?_eq_getElem (by omega)⟩
      have hc := ((hR'.elt (k := j) (u := b8 u) (by simp [B8, hu])).cons (p := Inv k)).cons (p := blk b (.cells #[.slice (some ⟨ab, off, none⟩) l.length c] 33 (0, 0)))
      have hy := hY k (blk b (.cells #[.slice (some ⟨ab, off, none⟩) l.length c] 33 (0, 0)) :: M) wr _ (back_at l k j u hkj hu) hE.cons hs2.swap
      have hjl : j < l.length := by omega
      have Hkj : Hid (l.length = k + 1 + j) := hkj
      clear hj hkj hu
      gi_wp2_with (first | ((with_reducible apply wi_load); assumption; rfl; (repeat (first | assumption | exact Cl.blk rfl | apply Cl.cons))) | ((with_reducible apply wi_yield (hy := hy)); rfl; rfl; rotate_left; (rintro e w' (⟨rfl, _⟩ | ⟨rfl, _⟩) <;> exact ⟨_, rfl⟩); rintro v w1 (⟨hv, hs3⟩ | ⟨hv, hs3⟩) <;> cases hv))
      · go_roundw
        case rel => exact ⟨k + 1, (j : Int) - 1, by omega, by have := Hkj.out; omega, by go_num, hs3.swap⟩
        case measure => simp [intOf]
      · refine bodyPost_ret (results_none rfl _ _ _) rfl ?_
        exact ⟨⟨_, rfl⟩, .inr ⟨k, by rw [back_length]; exact hlt, hs3.pick (.cons (.here _) (.drop (.tail _)))⟩⟩
    · obtain rfl : k = l.length := by omega
      gi_wp2
      go_end0
      exact ⟨⟨_, rfl⟩, .inl (by rw [back_length]; exact hs2.tail)⟩

theorem backward_seq' {w0 : World} {L : List HP} {A : Option Addr} {b c n : Nat} (l : List UInt8) (hn : n = l.length) (hl : l.length ≤ 4294967296) (hR : Rd w0 L A n 1 (B8 l)) :
    Seq Try.prog 82 #[.pointer (some ⟨b, 0, none⟩)] w0 L (blk b (.cells #[.slice A n c] 33 (0, 0))) (back l) := by
  subst hn; exact backward_seq l hl hR

theorem back_inv (l : List UInt8) (k : Nat) (x : Array Value) (h : (back l)[k]? = some x) : ∃ j c, l.length = k + 1 + j ∧ l[j]? = some c ∧ x = #[.int .i64 (j : Int), b8 c] := by
  have hk : k < l.length := by
    have := (List.getElem?_eq_some_iff.1 h).1
    rwa [back_length] at this
  obtain ⟨j, hj⟩ : ∃ j, l.length = k + 1 + j := ⟨l.length - 1 - k, by omega⟩
  have hc : l[j]? = some (l[j]'(by omega)) := List.getElem?_eq_getElem (by omega)
  refine ⟨j, _, hj, hc, ?_⟩
  rw [back_at l k j _ hj hc] at h
  exact (Option.some.inj h).symm
#print axioms backward_seq
end Go.Proofs.Ytdlimjcidblneaa

/-
  wire.Reader: what it holds, Number.
-/
namespace Go.Proofs.Ytdlimjcidblneaa
open Go Go.RowKit Sl Go.Shelf
attribute [local go_sem] Oper.semAt_some

def val : List UInt8 → Nat
  | [] => 0
  | c :: l => c.toNat + 256 * val l

/-- What Number does at the first error e and the bytes l that are left: its answer, the error, what is left. -/
def rdNumber (e : Int) (l : List UInt8) : Int × Int × List UInt8 :=
  if e ≠ 0 then (0, e, l) else
  match l with
  | [] => (0, 20, [])
  | c :: r =>
    if 6 < c.toNat then (0, 21, l)
    else if r.length < c.toNat then (0, 20, l)
    else if 0 < c.toNat ∧ r[c.toNat - 1]? = some 0 then (0, 21, l)
    else ((val (r.take c.toNat) : Int), 0, r.drop c.toNat)

/-- A reader at p, whose bytes lie in buf: the first error, the bytes that are left. -/
def Rd1 (buf : HP) (p : Nat) (e : Int) (l : List UInt8) : HP := fun h => ∃ x : Option Addr × Nat, (l.length ≤ x.2 ∧ ∀ w0 L, Rd w0 (buf :: L) x.1 l.length 1 (B8 l)) ∧ blk p (.cells #[.int .i64 e, .slice x.1 l.length x.2, .bool true] 118 (0, 0)) h

theorem Rd1.opened {w0 w : World} {L : List HP} {buf : HP} {p : Nat} {e : Int} {l : List UInt8} (h : Sat w0 w (Rd1 buf p e l :: L)) :
    ∃ (A : Option Addr) (c : Nat), l.length ≤ c ∧ (∀ w0 L, Rd w0 (buf :: L) A l.length 1 (B8 l)) ∧ Sat w0 w (blk p (.cells #[.int .i64 e, .slice A l.length c, .bool true] 118 (0, 0)) :: L) := by
  obtain ⟨⟨A, c⟩, h1⟩ := h.ex
  obtain ⟨⟨h2, h3⟩, h4⟩ := h1.pure
  exact ⟨A, c, h2, h3, h4⟩

theorem Rd1.made {w0 w : World} {L : List HP} {p : Nat} {e : Int} {l : List UInt8} {A : Option Addr} {c n : Nat} {buf : HP} (hn : n = l.length) (h1 : l.length ≤ c) (h2 : ∀ w0 L, Rd w0 (buf :: L) A l.length 1 (B8 l))
    (h : Sat w0 w (blk p (.cells #[.int .i64 e, .slice A n c, .bool true] 118 (0, 0)) :: L)) : Sat w0 w (Rd1 buf p e l :: L) := by
  subst hn
  exact h.to_head fun _ hb => ⟨(A, c), ⟨h1, h2⟩, hb⟩

theorem none_spec {w0 w : World} {L L' : List HP} {p : Nat} {v0 v1 : Value} {b : Bool} {T : TypeId} (hs : Sat w0 w L) (ho : Out (blk p (.cells #[v0, v1, .bool b] T (0, 0))) L L') :
    Calls Try.prog 70 #[.pointer (some ⟨p, 0, none⟩)] w fun r w' => r = .returned (.bool (!b)) ∧ w = w' := by
  have hc : Cl w0 L ⟨p, 2, none⟩ (.bool b) := fun w hs => by
    have := hs.get ho
    simp [World.cell?, this]
  go_enter Try.func70, Try.ntmps70
  go_wp2_with (first | ((with_reducible apply wl_unguard); rfl) | ((with_reducible apply wl_load); assumption; rfl; (repeat (first | assumption | exact Cl.blk rfl | apply Cl.cons))))
  go_ret
  exact ⟨rfl, rfl⟩

/-- It has answered x, and the reader stands so. -/
def RetN (w0 : World) (L : List HP) (buf : HP) (p : Nat) (x : Int × Int × List UInt8) (r : Ending) (w' : World) : Prop := r = .returned (.int .i64 x.1) ∧ Sat w0 w' (Rd1 buf p x.2.1 x.2.2 :: buf :: L)

theorem val_lt (l : List UInt8) : val l < 256 ^ l.length := by
  induction l with
  | nil => simp [val]
  | cons c l ih => have := c.toNat_lt; simp only [val, List.length_cons, Nat.pow_succ]; omega

theorem nothing {w0 w : World} {L : List HP} (h : Sat w0 w ((fun _ => False) :: L)) : False :=
  ((h.to_head (q := fun _ => False ∧ False) fun _ h => h.elim).pure (P := fun _ => False)).1

theorem bits_or_i64 (v u : Nat) (hv : v < 256 ^ 5) (hu : u < 256) : bits .or .i64 ((v : Int) * 256) (u : Int) = ((u + 256 * v : Nat) : Int) := by
  have h0 : v * 256 ||| u = u + 256 * v := by
    have := Nat.shiftLeft_add_eq_or_of_lt (a := v) (b := u) (i := 8) (by omega)
    rw [Nat.shiftLeft_eq] at this
    simp only [Nat.reducePow] at this
    rw [← this]; omega
  have e : ((v : Int) * 256) = ((v * 256 : Nat) : Int) := by simp
  have h1 : (BitVec.ofInt 64 ((v * 256 : Nat) : Int)).toNat = v * 256 := by
    rw [BitVec.ofInt_natCast, BitVec.toNat_ofNat]; exact Nat.mod_eq_of_lt (by omega)
  have h2 : (BitVec.ofInt 64 (u : Int)).toNat = u := by
    rw [BitVec.ofInt_natCast, BitVec.toNat_ofNat]; exact Nat.mod_eq_of_lt (by omega)
  rw [e]
  show IntKind.i64.wrap ((BitVec.ofInt 64 ((v * 256 : Nat) : Int) ||| BitVec.ofInt 64 (u : Int)).toNat : Int) = _
  rw [BitVec.toNat_or, h1, h2, h0]
  simp [IntKind.wrap, IntKind.bits, IntKind.signed]; omega

set_option maxHeartbeats 2000000 in
theorem number_read {w0 w : World} {L : List HP} {buf : HP} {p : Nat} (e : Int) (l : List UInt8) (hl : l.length ≤ 4294967296) (hs : Sat w0 w (Rd1 buf p e l :: buf :: L)) :
    Calls Try.prog 52 #[.pointer (some ⟨p, 0, none⟩)] w (RetN w0 L buf p (rdNumber e l)) := by
  obtain ⟨A, c, hc, hR, hs1⟩ := Rd1.opened hs
  clear hs
  by_cases he : e ≠ 0
  · have e1 : rdNumber e l = (0, e, l) := by unfold rdNumber; rw [if_pos he]
    have h0 : (e == 0) = false := by simp [he]
    rw [e1]; clear e1 he
    (refine calls_of_marks Try.func52 rfl ?_; simp only [Try.ntmps52, List.size_toArray, List.length_cons, List.length_nil, Nat.reduceAdd, Nat.reduceSub, Array.replicate_succ, Array.replicate_zero, List.push_toArray, List.append_toArray, List.nil_append, List.cons_append])
    go_wp2_with (first | (go_at_call 70; refine (none_spec hs1 (.here _)).mono ?_; rintro e' w' ⟨rfl, rfl⟩) | (go_at_call 71; refine (fok_spec hs1 (.here _) rfl).mono ?_; rintro e' w' ⟨rfl, rfl⟩) | ((with_reducible apply wl_unguard); rfl))
    exact leave_plain (results_tmp rfl _ _ _) ⟨rfl, Rd1.made rfl hc hR hs1⟩
  · obtain rfl : e = 0 := by omega
    clear he
    cases l with
    | nil =>
      have e1 : rdNumber 0 [] = (0, 20, []) := by simp [rdNumber]
      rw [e1]; clear e1
      simp only [List.length_nil] at hs1 hc hR
      (refine calls_of_marks Try.func52 rfl ?_; simp only [Try.ntmps52, List.size_toArray, List.length_cons, List.length_nil, Nat.reduceAdd, Nat.reduceSub, Array.replicate_succ, Array.replicate_zero, List.push_toArray, List.append_toArray, List.nil_append, List.cons_append])
      go_wp2_with (first | (go_at_call 70; refine (none_spec hs1 (.here _)).mono ?_; rintro e' w' ⟨rfl, rfl⟩) | (go_at_call 71; refine (fok_spec hs1 (.here _) rfl).mono ?_; rintro e' w' ⟨rfl, rfl⟩) | (go_at_call 72; refine (fset_spec hs1 (.here _)).mono ?_; rintro e' w2 ⟨rfl, hs2⟩; simp only [if_true] at hs2) | ((with_reducible apply wl_unguard); rfl) | ((with_reducible apply wl_load); assumption; rfl; (repeat (first | assumption | exact Cl.blk rfl | apply Cl.cons))))
      exact leave_plain (results_tmp rfl _ _ _) ⟨rfl, Rd1.made rfl hc hR hs2⟩
    | cons c0 r =>
      obtain ⟨q0, off, rfl⟩ := (hR w0 L).some_of hs1.tail (by simp)
      have hcl : ∀ (k : Nat) (u : UInt8), (c0 :: r)[k]? = some u → Cl w0 (blk p (.cells #[.int .i64 0, .slice (some ⟨q0, off, none⟩) (c0 :: r).length c, .bool true] 118 (0, 0)) :: buf :: L) ⟨q0, off + k, none⟩ (b8 u) := fun k u hu => ((hR w0 L).elt (k := k) (u := b8 u) (by rw [B8, List.getElem?_map, hu]; rfl)).cons
      have hc0 := hcl 0 c0 rfl
      have hlen : (c0 :: r).length = r.length + 1 := rfl
      rw [hlen] at hs1 hcl hc0
      have Hlen : Hid ((c0 :: r).length = r.length + 1) := hlen
      have hb0 := c0.toNat_lt
      have hl1 : r.length + 1 ≤ 4294967296 := by rw [← hlen]; exact hl
      clear hlen hl
      unfold b8 at hc0
      by_cases h6 : 6 < c0.toNat
      · have e1 : rdNumber 0 (c0 :: r) = (0, 21, c0 :: r) := by simp [rdNumber, h6]
        rw [e1]; clear e1 hcl
        (refine calls_of_marks Try.func52 rfl ?_; simp only [Try.ntmps52, List.size_toArray, List.length_cons, List.length_nil, Nat.reduceAdd, Nat.reduceSub, Array.replicate_succ, Array.replicate_zero, List.push_toArray, List.append_toArray, List.nil_append, List.cons_append])
        go_wp2_with (first | (go_at_call 70; refine (none_spec hs1 (.here _)).mono ?_; rintro e' w' ⟨rfl, rfl⟩) | (go_at_call 71; refine (fok_spec hs1 (.here _) rfl).mono ?_; rintro e' w' ⟨rfl, rfl⟩) | (go_at_call 72; refine (fset_spec hs1 (.here _)).mono ?_; rintro e' w2 ⟨rfl, hs2⟩; simp only [if_true] at hs2) | ((with_reducible apply wl_unguard); rfl) | ((with_reducible apply wl_load); assumption; rfl; (repeat (first | assumption | exact Cl.blk rfl | apply Cl.cons))))
        exact leave_plain (results_tmp rfl _ _ _) ⟨rfl, Rd1.made Hlen.out.symm hc hR hs2⟩
      by_cases h7 : r.length < c0.toNat
      · have e1 : rdNumber 0 (c0 :: r) = (0, 20, c0 :: r) := by simp [rdNumber, h6, h7]
        rw [e1]; clear e1 hcl
        (refine calls_of_marks Try.func52 rfl ?_; simp only [Try.ntmps52, List.size_toArray, List.length_cons, List.length_nil, Nat.reduceAdd, Nat.reduceSub, Array.replicate_succ, Array.replicate_zero, List.push_toArray, List.append_toArray, List.nil_append, List.cons_append])
        go_wp2_with (first | (go_at_call 70; refine (none_spec hs1 (.here _)).mono ?_; rintro e' w' ⟨rfl, rfl⟩) | (go_at_call 71; refine (fok_spec hs1 (.here _) rfl).mono ?_; rintro e' w' ⟨rfl, rfl⟩) | (go_at_call 72; refine (fset_spec hs1 (.here _)).mono ?_; rintro e' w2 ⟨rfl, hs2⟩; simp only [if_true] at hs2) | ((with_reducible apply wl_unguard); rfl) | ((with_reducible apply wl_load); assumption; rfl; (repeat (first | assumption | exact Cl.blk rfl | apply Cl.cons))))
        exact leave_plain (results_tmp rfl _ _ _) ⟨rfl, Rd1.made Hlen.out.symm hc hR hs2⟩
      obtain ⟨n, hn⟩ : ∃ n, n = c0.toNat := ⟨_, rfl⟩
      rw [← hn] at h6 h7 hc0
      have hn6 : n ≤ 6 := by omega
      have hnr : n ≤ r.length := by omega
      have hcc : r.length + 1 ≤ c := by have := Hlen.out; omega
      by_cases h8 : 0 < n ∧ r[n - 1]? = some 0
      · have e1 : rdNumber 0 (c0 :: r) = (0, 21, c0 :: r) := by simp [rdNumber, ← hn, h6, h7, h8]
        rw [e1]
        have hcn := hcl n 0 (by obtain ⟨m, rfl⟩ : ∃ m, n = m + 1 := ⟨n - 1, by omega⟩; simpa using h8.2)
        have h9 : 0 < n := h8.1
        rw [show b8 0 = .int .u8 0 from rfl] at hcn
        clear e1 hcl hn h8
        (refine calls_of_marks Try.func52 rfl ?_; simp only [Try.ntmps52, List.size_toArray, List.length_cons, List.length_nil, Nat.reduceAdd, Nat.reduceSub, Array.replicate_succ, Array.replicate_zero, List.push_toArray, List.append_toArray, List.nil_append, List.cons_append])
        go_wp2_with (first | (go_at_call 70; refine (none_spec hs1 (.here _)).mono ?_; rintro e' w' ⟨rfl, rfl⟩) | (go_at_call 71; refine (fok_spec hs1 (.here _) rfl).mono ?_; rintro e' w' ⟨rfl, rfl⟩) | (go_at_call 72; refine (fset_spec hs1 (.here _)).mono ?_; rintro e' w2 ⟨rfl, hs2⟩; simp only [if_true] at hs2) | ((with_reducible apply wl_unguard); rfl) | ((with_reducible apply wl_load); assumption; rfl; (repeat (first | assumption | exact Cl.blk rfl | apply Cl.cons))))
        exact leave_plain (results_tmp rfl _ _ _) ⟨rfl, Rd1.made Hlen.out.symm hc hR hs2⟩
      have e1 : rdNumber 0 (c0 :: r) = ((val (r.take n) : Int), 0, r.drop n) := by simp [rdNumber, ← hn, h6, h7, h8]
      rw [e1]
      refine dite (0 < n) (fun h9 => ?_) (fun h9 => ?_)
      all_goals first
        | (obtain ⟨u, hu⟩ : ∃ u, r[n - 1]? = some u := ⟨r[n - 1]'(by omega), List.getElem?_eq_getElem (by omega)⟩
           have hu0 : u ≠ 0 := fun h => h8 ⟨h9, by rw [hu, h]⟩
           have hcn := hcl n u (by obtain ⟨m, rfl⟩ : ∃ m, n = m + 1 := ⟨n - 1, by omega⟩; simpa using hu)
           have hu1 : ((u.toNat : Int) == 0) = false := by
             have : u.toNat ≠ 0 := fun h => hu0 (UInt8.toNat_inj.1 (by simpa using h))
             simpa using this
           unfold b8 at hcn
           clear e1 hcl hn h8 hu hu0)
        | (have h9' := h9; clear e1 hcl hn h8)
      all_goals
        (refine calls_of_marks Try.func52 rfl ?_; simp only [Try.ntmps52, List.size_toArray, List.length_cons, List.length_nil, Nat.reduceAdd, Nat.reduceSub, Array.replicate_succ, Array.replicate_zero, List.push_toArray, List.append_toArray, List.nil_append, List.cons_append])
        go_wp2_with (first | (go_at_call 70; refine (none_spec hs1 (.here _)).mono ?_; rintro e' w' ⟨rfl, rfl⟩) | (go_at_call 71; refine (fok_spec hs1 (.here _) rfl).mono ?_; rintro e' w' ⟨rfl, rfl⟩) | ((with_reducible apply wl_alloc); assumption; intro b w1 hs1; simp only [Value.cells] at hs1) | ((with_reducible apply wl_sliceLH (l := 1) (k := n + 1)); go_must (rfl; rfl; rfl; (simp); omega; omega; omega; omega; intro A1 hw1)) | (go_at_call 73; refine (backward_spec (by assumption)).mono ?_; rintro e' w3 ⟨bb, rfl, hs3⟩) | ((with_reducible apply wl_unguard); rfl) | ((with_reducible apply wl_store1); assumption; rfl; (go_simp; rfl); (repeat (first | exact Out.here _ | apply Out.there)); rfl; rfl; simp; intro w1 hs1; (try simp only [List.setIfInBounds_toArray] at hs1); (try simp only [List.set_cons_succ] at hs1); (try simp only [List.set_cons_zero] at hs1)) | ((with_reducible apply wl_load); assumption; rfl; (repeat (first | assumption | exact Cl.blk rfl | apply Cl.cons))))
        have hseg : (r.take n).length = n := by simp; omega
        have hRs : Rd w0 (blk p (.cells #[.int .i64 0, .slice (some ⟨q0, off, none⟩) (r.length + 1) c, .bool true] 118 (0, 0)) :: buf :: L) A1 n 1 (B8 (r.take n)) := by
          have := hw1 _ _ _ ((hR w0 L).cons (p := blk p (.cells #[.int .i64 0, .slice (some ⟨q0, off, none⟩) (r.length + 1) c, .bool true] 118 (0, 0))))
          simpa [B8] using this
        refine wl_rangeFunc (w0 := w0) (T := blk bb (.cells #[.slice A1 n (c - 1)] 33 (0, 0))) (L := blk p (.cells #[.int .i64 0, .slice (some ⟨q0, off, none⟩) (r.length + 1) c, .bool true] 118 (0, 0)) :: buf :: L) (xs := back (r.take n)) rfl (enters_of Try.func82 (by kernel_rfl) rfl) (backward_seq' (r.take n) hseg.symm (by omega) hRs) ?_
          (fun k => blk b (.cells #[.int .i64 (val ((r.take n).drop (n - k)) : Int)] 3 (0, 0))) (fun _ _ _ => False) ?_ ?_ ?_ ?_
        · intro x hx
          obtain ⟨k, hk⟩ := List.getElem?_of_mem hx
          obtain ⟨j, u, _, _, rfl⟩ := back_inv _ _ _ hk
          rfl
        · rw [Nat.sub_zero, List.drop_of_length_le (by omega)]
          exact hs3.pick (.cons (.there _ _ _ (.here _)) (.tail _))
        · intro lp k x W M hx hE hsW
          obtain ⟨j, u, hj, hu, rfl⟩ := back_inv _ _ _ hx
          gi_wp2
          refine ⟨_, hsW, fun W2 M' hE' hs2 => ?_⟩
          have hkn : k + 1 + j = n := by omega
          have hd := drop_at (r.take n) j u hu
          have hj1 : j + 1 = n - k := by omega
          have hj2 : j = n - (k + 1) := by omega
          rw [hj1, hj2] at hd
          have hvs : val ((r.take n).drop (n - (k + 1))) = u.toNat + 256 * val ((r.take n).drop (n - k)) := by rw [hd]; rfl
          have hvl := val_lt ((r.take n).drop (n - k))
          rw [show ((r.take n).drop (n - k)).length = k from by simp; omega] at hvl
          have hvb : val ((r.take n).drop (n - k)) < 256 ^ 5 := Nat.lt_of_lt_of_le hvl (Nat.pow_le_pow_right (by omega) (by omega))
          have Hvs : Hid (val ((r.take n).drop (n - (k + 1))) = u.toNat + 256 * val ((r.take n).drop (n - k))) := hvs
          have hub := u.toNat_lt
          clear hvs hvl hd hj1 hj2 hu hj hx hs1 hs3
          generalize val ((r.take n).drop (n - k)) = v at hvb hs2 Hvs
          generalize hv2 : val ((r.take n).drop (n - (k + 1))) = v2 at Hvs
          have Hv2 : Hid (val ((r.take n).drop (n - (k + 1))) = v2) := hv2
          clear hv2
          unfold b8
          gi_wp2_with (first | ((with_reducible apply wi_store1); assumption; rfl; (go_simp; rfl); (repeat (first | exact Out.here _ | apply Out.there)); rfl; rfl; simp; intro w1 hs1; (try simp only [List.setIfInBounds_toArray] at hs1); (try simp only [List.set_cons_succ] at hs1); (try simp only [List.set_cons_zero] at hs1)) | ((with_reducible apply wi_load); assumption; rfl; (repeat (first | assumption | exact Cl.blk rfl | apply Cl.cons))))
          rw [bits_or_i64 v u.toNat hvb hub, ← Hvs.out, ← Hv2.out] at hs1
          exact hs1
        · intro D W hsW
          rw [back_length, hseg, Nat.sub_self, List.drop_zero] at hsW
          clear hs1 hs3
          go_wp2_with (first | ((with_reducible apply wl_sliceLo (l := n + 1)); go_must (rfl; rfl; (simp); omega; omega; intro A2 hw2)) | ((with_reducible apply wl_store1); assumption; rfl; (go_simp; rfl); (repeat (first | exact Out.here _ | apply Out.there)); rfl; rfl; simp; intro w1 hs1; (try simp only [List.setIfInBounds_toArray] at hs1); (try simp only [List.set_cons_succ] at hs1); (try simp only [List.set_cons_zero] at hs1)) | ((with_reducible apply wl_load); assumption; rfl; (repeat (first | assumption | exact Cl.blk rfl | apply Cl.cons))))
          refine leave_mark (hs1.pick (.cons (.there _ _ _ (.here _)) (.tail _))) (fun w => results_tmp rfl _ _ _) fun w' h => ⟨rfl, Rd1.made (by simp) (by simp; omega) ?_ (h.pick (.cons (.here _) (.drop (.tail _))))⟩
          intro w0 L
          have := hw2 _ _ _ (hR w0 L)
          simpa [B8, List.take_of_length_le] using this
        · intro D W o k _ h
          exact (nothing h.tail).elim
end Go.Proofs.Ytdlimjcidblneaa

/-
  wire.Reader: New, Left, Err, End, Bytes.
-/
namespace Go.Proofs.Ytdlimjcidblneaa
open Go Go.RowKit Sl Go.Shelf
attribute [local go_sem] Oper.semAt_some

theorem rdNumber_ok {e : Int} {l l2 : List UInt8} {v e2 : Int} (h : rdNumber e l = (v, e2, l2)) : 0 ≤ v ∧ (e2 ≠ 0 → v = 0) ∧ l2.length ≤ l.length ∧ v < 281474976710656 := by
  unfold rdNumber at h
  split at h
  · cases h; simp
  · split at h
    · cases h; simp
    · rename_i c r
      split at h
      · cases h; simp
      · split at h
        · cases h; simp
        · split at h
          · cases h; simp
          · rename_i h6 _ _
            cases h
            have h1 := val_lt (r.take c.toNat)
            have h2 : 256 ^ (r.take c.toNat).length ≤ 256 ^ 6 := Nat.pow_le_pow_right (by omega) (by simp; omega)
            refine ⟨by omega, by simp, by simp; omega, by omega⟩

/-- What Bytes does. -/
def rdBytes (e : Int) (l : List UInt8) : List UInt8 × Int × List UInt8 :=
  let x := rdNumber e l
  if x.2.1 ≠ 0 then ([], x.2.1, l)
  else if 1048576 < x.1 then ([], 21, l)
  else if (x.2.2.length : Int) < x.1 then ([], 20, l)
  else (x.2.2.take x.1.toNat, 0, x.2.2.drop x.1.toNat)

/-- What End answers. -/
def rdEnd (e : Int) (l : List UInt8) : Int := if e ≠ 0 then e else if 0 < l.length then 21 else 0

/-- A new reader. -/
def RetNew (w0 : World) (L : List HP) (l : List UInt8) (r : Ending) (w' : World) : Prop := ∃ p buf, r = .returned (.pointer (some ⟨p, 0, none⟩)) ∧ Sat w0 w' (Rd1 buf p 0 l :: buf :: L)

set_option maxHeartbeats 400000 in
theorem new_spec {w0 w : World} {L : List HP} {A : Option Addr} {c : Nat} (l : List UInt8) (hl : l.length ≤ 4294967296) (hs : Sat w0 w L) (hR : Rd w0 L A l.length 1 (B8 l)) :
    Calls Try.prog 51 #[.slice A l.length c] w (RetNew w0 L l) := by
  go_enter Try.func51, Try.ntmps51
  go_wp2_with (first | (go_at_call 48; refine (clone_spec l hl hs hR).mono ?_; rintro e' w2 ⟨A2, c2, rfl, hs2⟩) | ((with_reducible apply wl_box); assumption; (go_simp; rfl); intro b w1 hs1; simp only [Value.cells] at hs1))
  go_ret
  exact ⟨_, _, rfl, Rd1.made rfl (hs2.own_cap) (fun w0 L => Rd.own) hs1⟩

theorem err_spec {w0 w : World} {L : List HP} {buf : HP} {p : Nat} {e : Int} {l : List UInt8} (hs : Sat w0 w (Rd1 buf p e l :: L)) :
    Calls Try.prog 54 #[.pointer (some ⟨p, 0, none⟩)] w fun r w' => r = .returned (.int .i64 e) ∧ w = w' := by
  obtain ⟨A, c, hc, hR, hs1⟩ := Rd1.opened hs
  go_enter Try.func54, Try.ntmps54
  go_wp2_with (first | (go_at_call 70; refine (none_spec hs1 (.here _)).mono ?_; rintro e' w' ⟨rfl, rfl⟩) | ((with_reducible apply wl_load); assumption; rfl; (repeat (first | assumption | exact Cl.blk rfl | apply Cl.cons))))
  go_ret
  exact ⟨rfl, rfl⟩

theorem end_spec {w0 w : World} {L : List HP} {buf : HP} {p : Nat} {e : Int} {l : List UInt8} (hs : Sat w0 w (Rd1 buf p e l :: L)) :
    Calls Try.prog 55 #[.pointer (some ⟨p, 0, none⟩)] w fun r w' => r = .returned (.int .i64 (rdEnd e l)) ∧ w = w' := by
  obtain ⟨A, c, hc, hR, hs1⟩ := Rd1.opened hs
  unfold rdEnd
  by_cases he : e ≠ 0
  · have h0 : (e != 0) = true := by simp [he]
    rw [if_pos he]
    go_enter Try.func55, Try.ntmps55
    go_wp2_with (go_at_call 54; refine (err_spec hs).mono ?_; rintro e' w' ⟨rfl, rfl⟩)
    go_ret
    exact ⟨rfl, rfl⟩
  · obtain rfl : e = 0 := by omega
    rw [if_neg he]
    by_cases hl : 0 < l.length
    all_goals
      first | rw [if_pos hl] | rw [if_neg hl]
      go_enter Try.func55, Try.ntmps55
      go_wp2_with (first | (go_at_call 54; refine (err_spec hs).mono ?_; rintro e' w' ⟨rfl, rfl⟩) | ((with_reducible apply wl_load); assumption; rfl; (repeat (first | assumption | exact Cl.blk rfl | apply Cl.cons))))
      go_ret
      exact ⟨rfl, rfl⟩

theorem win_take {A A' : Option Addr} {n k : Nat} {l : List UInt8} {w0 : World} {L : List HP} (hw : Win A A' n 0 k) (hR : Rd w0 L A n 1 (B8 l)) : Rd w0 L A' k 1 (B8 (l.take k)) := by
  have := hw _ _ _ hR
  simpa [B8] using this

theorem win_drop {A A' : Option Addr} {n k : Nat} {l : List UInt8} {w0 : World} {L : List HP} (hn : n = l.length) (hw : Win A A' n k n) (hR : Rd w0 L A n 1 (B8 l)) : Rd w0 L A' (n - k) 1 (B8 (l.drop k)) := by
  have := hw _ _ _ hR
  subst hn
  simpa [B8, List.take_of_length_le] using this

theorem clone_to {w0 w : World} {L : List HP} {A : Option Addr} {c : Nat} (n : Nat) (l : List UInt8) (hn : Hid (l.length = n)) (hl : n ≤ 4294967296) (hs : Sat w0 w L) (hR : Rd w0 L A n 1 (B8 l)) :
    Calls Try.prog 48 #[.slice A n c] w (fun r w' => ∃ A' c', r = .returned (.slice A' n c') ∧ Sat w0 w' (own 5 1 A' c' n (B8 l) :: L)) := by
  have hn := hn.out
  subst hn
  exact clone_spec l hl hs hR

set_option maxHeartbeats 2000000 in
theorem bytes_read {w0 w : World} {L : List HP} {buf : HP} {p : Nat} (e : Int) (l : List UInt8) (hl : l.length ≤ 4294967296) (hs : Sat w0 w (Rd1 buf p e l :: buf :: L)) :
    Calls Try.prog 53 #[.pointer (some ⟨p, 0, none⟩)] w (RetS w0 (Rd1 buf p (rdBytes e l).2.1 (rdBytes e l).2.2 :: buf :: L) (rdBytes e l).1) := by
  obtain ⟨A, c, hc, hR, hs1⟩ := Rd1.opened hs
  by_cases he : e ≠ 0
  · have e1 : rdBytes e l = ([], e, l) := by simp [rdBytes, rdNumber, he]
    have h0 : (e == 0) = false := by simp [he]
    rw [e1]; clear e1 he
    go_enter Try.func53, Try.ntmps53
    go_wp2_with (first | (go_at_call 70; refine (none_spec hs1 (.here _)).mono ?_; rintro e' w' ⟨rfl, rfl⟩) | (go_at_call 71; refine (fok_spec hs1 (.here _) rfl).mono ?_; rintro e' w' ⟨rfl, rfl⟩) | ((with_reducible apply wl_unguard); rfl))
    go_ret
    exact ⟨none, 0, rfl, Sat.own_nil (Rd1.made rfl hc hR hs1) _ _⟩
  · obtain rfl : e = 0 := by omega
    clear he
    obtain ⟨⟨v, e2, l2⟩, hx⟩ : ∃ x, rdNumber 0 l = x := ⟨_, rfl⟩
    obtain ⟨hv0, hv, hl2, hv48⟩ := rdNumber_ok hx
    have hN := number_read (p := p) (buf := buf) 0 l hl hs
    rw [hx] at hN
    by_cases he2 : e2 ≠ 0
    · have e1 : rdBytes 0 l = ([], e2, l) := by simp [rdBytes, hx, he2]
      have h0 : (e2 == 0) = false := by simp [he2]
      obtain rfl := hv he2
      rw [e1]; clear e1 hx hv
      go_enter Try.func53, Try.ntmps53
      go_wp2_with (first | (go_at_call 70; refine (none_spec hs1 (.here _)).mono ?_; rintro e' w' ⟨rfl, rfl⟩) | (go_at_call 71; refine (fok_spec (by assumption) (.here _) rfl).mono ?_; rintro e' w' ⟨rfl, rfl⟩) | (go_at_call 52; refine hN.mono ?_; rintro e' w2 ⟨rfl, hs2⟩; obtain ⟨A2, c2, hc2, hR2, hs3⟩ := Rd1.opened hs2; clear hs2) | ((with_reducible apply wl_unguard); rfl) | ((with_reducible apply wl_store1); assumption; rfl; (go_simp; rfl); (repeat (first | exact Out.here _ | apply Out.there)); rfl; rfl; simp; intro w1 hs1; (try simp only [List.setIfInBounds_toArray] at hs1); (try simp only [List.set_cons_succ] at hs1); (try simp only [List.set_cons_zero] at hs1)) | ((with_reducible apply wl_load); assumption; rfl; (repeat (first | assumption | exact Cl.blk rfl | apply Cl.cons))))
      go_ret
      exact ⟨none, 0, rfl, Sat.own_nil (Rd1.made rfl hc hR hs1) _ _⟩
    · obtain rfl : e2 = 0 := by omega
      by_cases hb : 1048576 < v
      · have e1 : rdBytes 0 l = ([], 21, l) := by simp [rdBytes, hx, hb]
        rw [e1]; clear e1 hx hv he2
        go_enter Try.func53, Try.ntmps53
        go_wp2_with (first | (go_at_call 70; refine (none_spec hs1 (.here _)).mono ?_; rintro e' w' ⟨rfl, rfl⟩) | (go_at_call 71; refine (fok_spec (by assumption) (.here _) rfl).mono ?_; rintro e' w' ⟨rfl, rfl⟩) | (go_at_call 72; refine (fset_spec hs3 (.here _)).mono ?_; rintro e' w4 ⟨rfl, hs4⟩; simp only [if_true] at hs4) | (go_at_call 52; refine hN.mono ?_; rintro e' w2 ⟨rfl, hs2⟩; obtain ⟨A2, c2, hc2, hR2, hs3⟩ := Rd1.opened hs2; clear hs2) | ((with_reducible apply wl_unguard); rfl) | ((with_reducible apply wl_store1); assumption; rfl; (go_simp; rfl); (repeat (first | exact Out.here _ | apply Out.there)); rfl; rfl; simp; intro w1 hs1; (try simp only [List.setIfInBounds_toArray] at hs1); (try simp only [List.set_cons_succ] at hs1); (try simp only [List.set_cons_zero] at hs1)) | ((with_reducible apply wl_load); assumption; rfl; (repeat (first | assumption | exact Cl.blk rfl | apply Cl.cons))))
        go_ret
        exact ⟨none, 0, rfl, Sat.own_nil (Rd1.made rfl hc hR hs1) _ _⟩
      by_cases hb2 : (l2.length : Int) < v
      · have e1 : rdBytes 0 l = ([], 20, l) := by simp [rdBytes, hx, hb, hb2]
        rw [e1]; clear e1 hx hv he2
        go_enter Try.func53, Try.ntmps53
        go_wp2_with (first | (go_at_call 70; refine (none_spec hs1 (.here _)).mono ?_; rintro e' w' ⟨rfl, rfl⟩) | (go_at_call 71; refine (fok_spec (by assumption) (.here _) rfl).mono ?_; rintro e' w' ⟨rfl, rfl⟩) | (go_at_call 72; refine (fset_spec hs3 (.here _)).mono ?_; rintro e' w4 ⟨rfl, hs4⟩; simp only [if_true] at hs4) | (go_at_call 52; refine hN.mono ?_; rintro e' w2 ⟨rfl, hs2⟩; obtain ⟨A2, c2, hc2, hR2, hs3⟩ := Rd1.opened hs2; clear hs2) | ((with_reducible apply wl_unguard); rfl) | ((with_reducible apply wl_store1); assumption; rfl; (go_simp; rfl); (repeat (first | exact Out.here _ | apply Out.there)); rfl; rfl; simp; intro w1 hs1; (try simp only [List.setIfInBounds_toArray] at hs1); (try simp only [List.set_cons_succ] at hs1); (try simp only [List.set_cons_zero] at hs1)) | ((with_reducible apply wl_load); assumption; rfl; (repeat (first | assumption | exact Cl.blk rfl | apply Cl.cons))))
        go_ret
        exact ⟨none, 0, rfl, Sat.own_nil (Rd1.made rfl hc hR hs1) _ _⟩
      · have e1 : rdBytes 0 l = (l2.take v.toNat, 0, l2.drop v.toNat) := by simp [rdBytes, hx, hb, hb2]
        have Hv : Hid (v = ((v.toNat : Nat) : Int)) := (Int.toNat_of_nonneg hv0).symm
        have hn : (l2.take v.toNat).length = v.toNat := by simp; omega
        have hnl : v.toNat ≤ l2.length := by omega
        have hnb : v.toNat ≤ 1048576 := by omega
        rw [e1]; clear e1 hx hv he2
        generalize v.toNat = n at *
        have Hn : Hid ((l2.take n).length = n) := hn
        clear hn
        go_enter Try.func53, Try.ntmps53
        go_wp2_with (first | (go_at_call 70; refine (none_spec hs1 (.here _)).mono ?_; rintro e' w' ⟨rfl, rfl⟩) | (go_at_call 71; refine (fok_spec (by assumption) (.here _) rfl).mono ?_; rintro e' w' ⟨rfl, rfl⟩) | (go_at_call 52; refine hN.mono ?_; rintro e' w2 ⟨rfl, hs2⟩; obtain ⟨A2, c2, hc2, hR2, hs3⟩ := Rd1.opened hs2; clear hs2) | ((with_reducible apply wl_sliceHi (k := n)); go_must (rfl; rfl; exact Hv.out; omega; omega; intro A3 hw3)) | ((with_reducible apply wl_sliceLo (l := n)); go_must (rfl; rfl; exact Hv.out; omega; omega; intro A5 hw5)) | (go_at_call 48; refine (clone_to n (l2.take n) (by assumption) (by omega) hs3 (win_take hw3 (hR2 _ _)).cons).mono ?_; rintro e' w5 ⟨A4, c4, rfl, hs5⟩) | ((with_reducible apply wl_unguard); rfl) | ((with_reducible apply wl_store1); assumption; rfl; (go_simp; rfl); (repeat (first | exact Out.here _ | apply Out.there)); rfl; rfl; simp; intro w1 hs1; (try simp only [List.setIfInBounds_toArray] at hs1); (try simp only [List.set_cons_succ] at hs1); (try simp only [List.set_cons_zero] at hs1)) | ((with_reducible apply wl_load); assumption; rfl; (repeat (first | assumption | exact Cl.blk rfl | apply Cl.cons))))
        go_ret
        exact RetS.mk (Rd1.made (l := l2.drop n) (by simp) (by simp; omega) (fun w0 L => by have := win_drop rfl hw5 (hR2 w0 L); rwa [List.length_drop]) hs1) (by (repeat (first | exact Pick.nil _ | exact Pick.tail _ | exact Out.here _ | apply Out.there | apply Pick.cons | apply Pick.drop))) rfl Hn.out.symm
end Go.Proofs.Ytdlimjcidblneaa

/-
  hustingsref03.Reader: New, Left, Number.
-/
namespace Go.Proofs.Ytdlimjcidblneaa
open Go Go.RowKit Sl Go.Shelf

theorem refLeft_spec {w0 w : World} {L : List HP} {q n c : Nat} {at_ : Nat} {A : Option Addr} (hn : n ≤ 4294967296) (hat : at_ ≤ n) (hs : Sat w0 w L) (h0 : Cl w0 L ⟨q, 0, none⟩ (.slice A n c)) (h1 : Cl w0 L ⟨q, 1, none⟩ (.int .i64 at_)) :
    Calls Try.prog 77 #[.pointer (some ⟨q, 0, none⟩)] w fun r w' => r = .returned (.int .i64 ((n - at_ : Nat) : Int)) ∧ Sat w0 w' L := by
  unfold Cl at h0 h1
  go_enter Try.func77, Try.ntmps77
  go_wp2
  have i0 : IntKind.i64.wrap ((n : Int) - (at_ : Int)) = ((n - at_ : Nat) : Int) := by rw [show (n : Int) - (at_ : Int) = ((n - at_ : Nat) : Int) from by omega]; exact IntWalk.i64_in _ (by omega)
  go_region_held3 (fun w' => Sat w0 w' L) (first | assumption | (apply Sat.drew; assumption)) (fail)
  all_goals go_wp2
  all_goals go_ret
  all_goals exact ⟨rfl, by assumption⟩

/-- The reader's own cells. -/
def RB (q : Nat) (A : Option Addr) (n c at_ : Nat) (e : Int) : HP := blk q (.cells #[.slice A n c, .int .i64 at_, .int .i64 e] 112 (0, 0))

/-- The reader at q has answered v; it stands at another place, and has the error e. -/
def RetRN (w0 : World) (L : List HP) (buf : HP) (q : Nat) (A : Option Addr) (c : Nat) (B : List UInt8) (x : Int × Int × List UInt8) (r : Ending) (w' : World) : Prop :=
  ∃ at_, at_ ≤ B.length ∧ B.drop at_ = x.2.2 ∧ r = .returned (.int .i64 x.1) ∧ Sat w0 w' (RB q A B.length c at_ x.2.1 :: buf :: L)

set_option maxHeartbeats 2000000 in
theorem refNumber_read {w0 w : World} {L : List HP} {buf : HP} {q c at_ : Nat} {A : Option Addr} (e : Int) (B : List UInt8) (hB : B.length ≤ 4294967296) (hat : at_ ≤ B.length)
    (hR : ∀ w0 L, Rd w0 (buf :: L) A B.length 1 (B8 B)) (hs : Sat w0 w (RB q A B.length c at_ e :: buf :: L)) :
    Calls Try.prog 61 #[.pointer (some ⟨q, 0, none⟩)] w (RetRN w0 L buf q A c B (rdNumber e (B.drop at_))) := by
  unfold RB at hs
  by_cases he : e ≠ 0
  · have e1 : rdNumber e (B.drop at_) = (0, e, B.drop at_) := by unfold rdNumber; rw [if_pos he]
    have h0 : (e != 0) = true := by simp [he]
    rw [e1]; clear e1 he
    go_enter Try.func61, Try.ntmps61
    go_wp2_with ((with_reducible apply wl_load); assumption; rfl; (repeat (first | assumption | exact Cl.blk rfl | apply Cl.cons)))
    go_ret
    exact ⟨at_, hat, rfl, rfl, hs⟩
  obtain rfl : e = 0 := by omega
  clear he
  by_cases hz : at_ = B.length
  · have e1 : rdNumber 0 (B.drop at_) = (0, 20, B.drop at_) := by rw [hz, List.drop_length]; simp [rdNumber]
    rw [e1]; clear e1
    have hz2 : B.length - at_ < 1 := by omega
    clear hz
    go_enter Try.func61, Try.ntmps61
    go_wp2_with (first | (go_at_call 77; refine (refLeft_spec hB hat hs (Cl.blk rfl) (Cl.blk rfl)).mono ?_; rintro e' w' ⟨rfl, hs2⟩; clear hs) | ((with_reducible apply wl_store1); assumption; rfl; (go_simp; rfl); (repeat (first | exact Out.here _ | apply Out.there)); rfl; rfl; simp; intro w1 hs1; (try simp only [List.setIfInBounds_toArray] at hs1); (try simp only [List.set_cons_succ] at hs1); (try simp only [List.set_cons_zero] at hs1)) | ((with_reducible apply wl_load); assumption; rfl; (repeat (first | assumption | exact Cl.blk rfl | apply Cl.cons))))
    go_ret
    exact ⟨at_, hat, rfl, rfl, hs1⟩
  obtain ⟨m, hm⟩ : ∃ m, m = B.length := ⟨_, rfl⟩
  have hlt : at_ < m := by omega
  obtain ⟨c0, hc0⟩ : ∃ c0, B[at_]? = some c0 := ⟨B[at_]'(by omega), List.getElem?_eq_getElem (by omega)⟩
  obtain ⟨r, hr⟩ : ∃ r, B.drop (at_ + 1) = r := ⟨_, rfl⟩
  have hrl : r.length = m - (at_ + 1) := by rw [← hr, List.length_drop, hm]
  have hd : B.drop at_ = c0 :: r := by rw [drop_at B at_ c0 hc0, hr]
  obtain ⟨g, off, rfl⟩ := (hR w0 L).some_of hs.tail (by omega)
  rw [← hm] at hs hB hat
  have hR' : ∀ (w0 : World) (L : List HP), Rd w0 (buf :: L) (some ⟨g, off, none⟩) m 1 (B8 B) := by rw [hm]; exact hR
  have hcl : ∀ (k : Nat) (u : UInt8), B[k]? = some u → Cl w0 (blk q (.cells #[.slice (some ⟨g, off, none⟩) m c, .int .i64 at_, .int .i64 0] 112 (0, 0)) :: buf :: L) ⟨g, off + k, none⟩ (b8 u) := fun k u hu => ((hR' w0 L).elt (k := k) (u := b8 u) (by rw [B8, List.getElem?_map, hu]; rfl)).cons
  have k0 : ∀ w', Sat w0 w' (blk q (.cells #[.slice (some ⟨g, off, none⟩) m c, .int .i64 at_, .int .i64 0] 112 (0, 0)) :: buf :: L) → w'.cell? ⟨q, 0, none⟩ = some (.slice (some ⟨g, off, none⟩) m c) := Cl.blk rfl
  have k1 : ∀ w', Sat w0 w' (blk q (.cells #[.slice (some ⟨g, off, none⟩) m c, .int .i64 at_, .int .i64 0] 112 (0, 0)) :: buf :: L) → w'.cell? ⟨q, 1, none⟩ = some (.int .i64 at_) := Cl.blk rfl
  have k3 : ∀ w', Sat w0 w' (blk q (.cells #[.slice (some ⟨g, off, none⟩) m c, .int .i64 at_, .int .i64 0] 112 (0, 0)) :: buf :: L) → w'.cell? ⟨g, off + at_, none⟩ = some (.int .u8 c0.toNat) := hcl at_ c0 hc0
  have i0 : (0 : Int) ≤ (at_ : Int) := by omega
  have i1 : (at_ : Int) < (m : Int) := by omega
  have Hm : Hid (m = B.length) := hm
  have hb0 := c0.toNat_lt
  rw [hd]
  by_cases h6 : 6 < c0.toNat
  · have e1 : rdNumber 0 (c0 :: r) = (0, 21, B.drop at_) := by simp [rdNumber, h6, hd]
    rw [e1]; clear e1 hcl hm hr hrl hd hc0 hz
    go_enter Try.func61, Try.ntmps61
    go_wp2_with (first | (go_at_call 77; refine (refLeft_spec hB hat (by assumption) (Cl.blk rfl) (Cl.blk rfl)).mono ?_; rintro e' w' ⟨rfl, hs2⟩) | ((with_reducible apply wl_load); assumption; rfl; (repeat (first | assumption | exact Cl.blk rfl | apply Cl.cons))))
    go_region_held3 (fun w' => Sat w0 w' (blk q (.cells #[.slice (some ⟨g, off, none⟩) m c, .int .i64 at_, .int .i64 0] 112 (0, 0)) :: buf :: L)) (first | assumption | (apply Sat.drew; assumption)) (fail)
    go_wp2_with ((with_reducible apply wl_store1); assumption; rfl; (go_simp; rfl); (repeat (first | exact Out.here _ | apply Out.there)); rfl; rfl; simp; intro w1 hs1; (try simp only [List.setIfInBounds_toArray] at hs1); (try simp only [List.set_cons_succ] at hs1); (try simp only [List.set_cons_zero] at hs1))
    go_ret
    refine ⟨at_, Hm.out ▸ hat, rfl, rfl, ?_⟩
    rw [← Hm.out]
    exact hs1
  by_cases h7 : r.length < c0.toNat
  · have e1 : rdNumber 0 (c0 :: r) = (0, 20, B.drop at_) := by simp [rdNumber, h6, h7, hd]
    have h7' : m - at_ < 1 + c0.toNat := by omega
    rw [e1]; clear e1 hcl hm hr hrl hd hc0 hz h7
    go_enter Try.func61, Try.ntmps61
    go_wp2_with (first | (go_at_call 77; refine (refLeft_spec hB hat (by assumption) (Cl.blk rfl) (Cl.blk rfl)).mono ?_; rintro e' w' ⟨rfl, hs2⟩) | ((with_reducible apply wl_load); assumption; rfl; (repeat (first | assumption | exact Cl.blk rfl | apply Cl.cons))))
    go_region_held3 (fun w' => Sat w0 w' (blk q (.cells #[.slice (some ⟨g, off, none⟩) m c, .int .i64 at_, .int .i64 0] 112 (0, 0)) :: buf :: L)) (first | assumption | (apply Sat.drew; assumption)) (fail)
    go_wp2_with (first | (go_at_call 77; refine (refLeft_spec hB hat (by assumption) (Cl.blk rfl) (Cl.blk rfl)).mono ?_; rintro e' w' ⟨rfl, hs2⟩) | ((with_reducible apply wl_store1); assumption; rfl; (go_simp; rfl); (repeat (first | exact Out.here _ | apply Out.there)); rfl; rfl; simp; intro w1 hs1; (try simp only [List.setIfInBounds_toArray] at hs1); (try simp only [List.set_cons_succ] at hs1); (try simp only [List.set_cons_zero] at hs1)))
    go_ret
    refine ⟨at_, Hm.out ▸ hat, rfl, rfl, ?_⟩
    rw [← Hm.out]
    exact hs1
  obtain ⟨n, hn⟩ : ∃ n, n = c0.toNat := ⟨_, rfl⟩
  rw [← hn] at h6 h7 k3
  have hn6 : n ≤ 6 := by omega
  have hnr : at_ + n < m := by omega
  have hat1 : ∀ k, r[k]? = B[at_ + (k + 1)]? := fun k => by rw [← hr, List.getElem?_drop]; congr 1; omega
  have j4 : IntKind.i64.wrap (n : Int) = (n : Int) := IntWalk.i64_in _ (by omega)
  have j0 : (0 : Int) ≤ (at_ : Int) + (n : Int) := by omega
  have j1 : (at_ : Int) + (n : Int) < (m : Int) := by omega
  have j2 : ((at_ : Int) + (n : Int)).toNat = at_ + n := by omega
  have j3 : IntKind.i64.wrap ((at_ : Int) + (n : Int)) = (at_ : Int) + (n : Int) := IntWalk.i64_in _ (by omega)
  by_cases h8 : 0 < n ∧ r[n - 1]? = some 0
  · have e1 : rdNumber 0 (c0 :: r) = (0, 21, B.drop at_) := by simp [rdNumber, ← hn, h6, h7, h8, hd]
    have k4 := hcl (at_ + n) 0 (by have := hat1 (n - 1); rw [h8.2] at this; rw [this]; congr 1; omega)
    rw [show b8 0 = .int .u8 0 from rfl] at k4
    unfold Cl at k4
    have d0 : decide ((0 : Int) < (n : Int)) = true := by simp; omega
    rw [e1]; clear e1 hcl hm hr hrl hd hc0 hz hn hat1 h7
    go_enter Try.func61, Try.ntmps61
    go_wp2_with (first | (go_at_call 77; refine (refLeft_spec hB hat (by assumption) (Cl.blk rfl) (Cl.blk rfl)).mono ?_; rintro e' w' ⟨rfl, hs2⟩) | ((with_reducible apply wl_load); assumption; rfl; (repeat (first | assumption | exact Cl.blk rfl | apply Cl.cons))))
    go_region_held3 (fun w' => Sat w0 w' (blk q (.cells #[.slice (some ⟨g, off, none⟩) m c, .int .i64 at_, .int .i64 0] 112 (0, 0)) :: buf :: L)) (first | assumption | (apply Sat.drew; assumption)) (fail)
    go_wp2_with (go_at_call 77; refine (refLeft_spec hB hat (by assumption) (Cl.blk rfl) (Cl.blk rfl)).mono ?_; rintro e' w' ⟨rfl, hs2⟩)
    go_region_held3 (fun w' => Sat w0 w' (blk q (.cells #[.slice (some ⟨g, off, none⟩) m c, .int .i64 at_, .int .i64 0] 112 (0, 0)) :: buf :: L)) (first | assumption | (apply Sat.drew; assumption)) (fail)
    go_wp2_with ((with_reducible apply wl_store1); assumption; rfl; (go_simp; rfl); (repeat (first | exact Out.here _ | apply Out.there)); rfl; rfl; simp; intro w1 hs1; (try simp only [List.setIfInBounds_toArray] at hs1); (try simp only [List.set_cons_succ] at hs1); (try simp only [List.set_cons_zero] at hs1))
    go_ret
    refine ⟨at_, Hm.out ▸ hat, rfl, rfl, ?_⟩
    rw [← Hm.out]
    exact hs1
  have e1 : rdNumber 0 (c0 :: r) = ((val (r.take n) : Int), 0, r.drop n) := by simp [rdNumber, ← hn, h6, h7, h8]
  rw [e1]
  refine dite (0 < n) (fun h9 => ?_) (fun h9 => ?_)
  all_goals first
    | (obtain ⟨u, hu⟩ : ∃ u, r[n - 1]? = some u := ⟨r[n - 1]'(by omega), List.getElem?_eq_getElem (by omega)⟩
       have hu0 : u ≠ 0 := fun h => h8 ⟨h9, by rw [hu, h]⟩
       have k4 := hcl (at_ + n) u (by have := hat1 (n - 1); rw [hu] at this; rw [this]; congr 1; omega)
       have hu1 : ((u.toNat : Int) == 0) = false := by
         have : u.toNat ≠ 0 := fun h => hu0 (UInt8.toNat_inj.1 (by simpa using h))
         simpa using this
       unfold b8 Cl at k4
       have d0 : decide ((0 : Int) < (n : Int)) = true := by simp; omega
       clear e1 hn h8 hu hu0)
    | (have d0 : decide ((0 : Int) < (n : Int)) = false := by simp; omega
       have h9' := h9
       clear e1 hn h8)
  all_goals
    have Hr : Hid (B.drop (at_ + 1) = r) := hr
    have Hat1 : Hid (∀ k, r[k]? = B[at_ + (k + 1)]?) := hat1
    have Hcl : Hid (∀ (k : Nat) (u : UInt8), B[k]? = some u → Cl w0 (blk q (.cells #[.slice (some ⟨g, off, none⟩) m c, .int .i64 at_, .int .i64 0] 112 (0, 0)) :: buf :: L) ⟨g, off + k, none⟩ (b8 u)) := hcl
    have Hrl : Hid (r.length = m - (at_ + 1)) := hrl
    clear hr hat1 hcl hrl hd hc0 hz h7 hm
    go_enter Try.func61, Try.ntmps61
    go_wp2_with (first | (go_at_call 77; refine (refLeft_spec hB hat (by assumption) (Cl.blk rfl) (Cl.blk rfl)).mono ?_; rintro e' w' ⟨rfl, hs2⟩) | ((with_reducible apply wl_load); assumption; rfl; (repeat (first | assumption | exact Cl.blk rfl | apply Cl.cons))))
    go_region_held3 (fun w' => Sat w0 w' (blk q (.cells #[.slice (some ⟨g, off, none⟩) m c, .int .i64 at_, .int .i64 0] 112 (0, 0)) :: buf :: L)) (first | assumption | (apply Sat.drew; assumption)) (fail)
    go_wp2_with (go_at_call 77; refine (refLeft_spec hB hat (by assumption) (Cl.blk rfl) (Cl.blk rfl)).mono ?_; rintro e' w' ⟨rfl, hs2⟩)
    first | ((have := h9'); go_region) | go_region_held3 (fun w' => Sat w0 w' (blk q (.cells #[.slice (some ⟨g, off, none⟩) m c, .int .i64 at_, .int .i64 0] 112 (0, 0)) :: buf :: L)) (first | assumption | (apply Sat.drew; assumption)) (fail)
    go_wp2_with fail
    go_loopw [4, 5] (fun x i wr => ∃ k : Nat, k ≤ n ∧ i = .int .i64 k ∧ x = .int .i64 (val ((r.take n).drop k)) ∧ Sat w0 wr (blk q (.cells #[.slice (some ⟨g, off, none⟩) m c, .int .i64 at_, .int .i64 0] 112 (0, 0)) :: buf :: L)) (fun _ i _ => (intOf i).toNat)
    case atStart => exact ⟨n, Nat.le_refl _, rfl, by rw [List.drop_of_length_le (by simp; omega)]; rfl, by first | assumption | (apply Sat.drew; assumption)⟩
    case round =>
      obtain ⟨k, hk, rfl, rfl, hs3⟩ := hrel
      clear hs hs2
      by_cases hk1 : 1 ≤ k
      · first
        | (exfalso; omega)
        | (obtain ⟨j, rfl⟩ : ∃ j, k = j + 1 := ⟨k - 1, by omega⟩
           have hrl := Hrl.out
           obtain ⟨u, hu⟩ : ∃ u, r[j]? = some u := ⟨r[j]'(by omega), List.getElem?_eq_getElem (by omega)⟩
           have k5 := Hcl.out (at_ + (j + 1)) u (by rw [← Hat1.out, hu])
           have hu2 : (r.take n)[j]? = some u := by rw [List.getElem?_take, if_pos (by omega), hu]
           have hd := drop_at (r.take n) j u hu2
           have hvs : val ((r.take n).drop j) = u.toNat + 256 * val ((r.take n).drop (j + 1)) := by rw [hd]; rfl
           have hvl := val_lt ((r.take n).drop (j + 1))
           have hvb : val ((r.take n).drop (j + 1)) < 256 ^ 5 := Nat.lt_of_lt_of_le hvl (Nat.pow_le_pow_right (by omega) (by simp; omega))
           have hub := u.toNat_lt
           have Hvs : Hid (val ((r.take n).drop j) = u.toNat + 256 * val ((r.take n).drop (j + 1))) := hvs
           clear hvs hvl hd hu2 hu hrl
           generalize val ((r.take n).drop (j + 1)) = v at hvb Hvs
           obtain ⟨k, hkk⟩ : ∃ k, k = j + 1 := ⟨_, rfl⟩
           have Hk : Hid (k = j + 1) := hkk
           rw [← hkk] at k5 hk hk1 ⊢
           clear hkk
           unfold b8 Cl at k5
           have l0 : (0 : Int) ≤ (at_ : Int) + (k : Int) := by omega
           have l1 : (at_ : Int) + (k : Int) < (m : Int) := by omega
           have l3 : IntKind.i64.wrap ((at_ : Int) + (k : Int)) = (at_ : Int) + (k : Int) := IntWalk.i64_in _ (by omega)
           have l2 : ((at_ : Int) + (k : Int)).toNat = at_ + k := by omega
           have l4 : IntKind.i64.wrap (u.toNat : Int) = (u.toNat : Int) := IntWalk.i64_in _ (by omega)
           have l5 : IntKind.i64.wrap ((v : Int) * 256) = (v : Int) * 256 := IntWalk.i64_in _ (by omega)
           go_wp2_with fail
           go_region_held3 (fun w' => Sat w0 w' (blk q (.cells #[.slice (some ⟨g, off, none⟩) m c, .int .i64 at_, .int .i64 0] 112 (0, 0)) :: buf :: L)) (first | assumption | (apply Sat.drew; assumption)) (fail)
           rw [bits_or_i64 v u.toNat hvb hub]
           go_wp2_with fail
           go_roundw
           case rel => exact ⟨j, by have := Hk.out; omega, by have := Hk.out; go_num, by rw [Hvs.out], by assumption⟩
           case measure => (have hkj := Hk.out; simp [intOf]; omega))
      · obtain rfl : k = 0 := by omega
        go_wp2_with (first | ((with_reducible apply wl_store1); assumption; rfl; (go_simp; rfl); (repeat (first | exact Out.here _ | apply Out.there)); rfl; rfl; simp; intro w1 hs1; (try simp only [List.setIfInBounds_toArray] at hs1); (try simp only [List.set_cons_succ] at hs1); (try simp only [List.set_cons_zero] at hs1)) | ((with_reducible apply wl_load); assumption; rfl; (repeat (first | assumption | exact Cl.blk rfl | apply Cl.cons))))
        go_ret
        refine ⟨at_ + 1 + n, by rw [← Hm.out]; omega, by rw [← Hr.out, List.drop_drop], rfl, ?_⟩
        rw [← Hm.out]
        exact hs1
end Go.Proofs.Ytdlimjcidblneaa

/-
  hustingsref03.Reader: New, Bytes, End.
-/
namespace Go.Proofs.Ytdlimjcidblneaa
open Go Go.RowKit Sl Go.Shelf

/-- A reader of the document's, at q: the first error, the bytes that are left. -/
def RR (buf : HP) (q : Nat) (e : Int) (l : List UInt8) : HP := fun h => ∃ x : Option Addr × Nat × List UInt8 × Nat, (x.2.2.1.length ≤ 4294967296 ∧ x.2.2.1.length ≤ x.2.1 ∧ x.2.2.2 ≤ x.2.2.1.length ∧ x.2.2.1.drop x.2.2.2 = l ∧ ∀ w0 L, Rd w0 (buf :: L) x.1 x.2.2.1.length 1 (B8 x.2.2.1)) ∧ RB q x.1 x.2.2.1.length x.2.1 x.2.2.2 e h

theorem RR.opened {w0 w : World} {L : List HP} {buf : HP} {q : Nat} {e : Int} {l : List UInt8} (h : Sat w0 w (RR buf q e l :: L)) :
    ∃ (A : Option Addr) (c : Nat) (B : List UInt8) (at_ : Nat), B.length ≤ 4294967296 ∧ B.length ≤ c ∧ at_ ≤ B.length ∧ B.drop at_ = l ∧ (∀ w0 L, Rd w0 (buf :: L) A B.length 1 (B8 B)) ∧ Sat w0 w (RB q A B.length c at_ e :: L) := by
  obtain ⟨⟨A, c, B, at_⟩, h1⟩ := h.ex
  obtain ⟨⟨h2, h3, h4, h5, h6⟩, h7⟩ := h1.pure
  exact ⟨A, c, B, at_, h2, h3, h4, h5, h6, h7⟩

theorem RR.made {w0 w : World} {L : List HP} {buf : HP} {q : Nat} {e : Int} {l : List UInt8} {A : Option Addr} {c : Nat} {B : List UInt8} {at_ : Nat} (h1 : B.length ≤ 4294967296) (h2 : B.length ≤ c) (h3 : at_ ≤ B.length) (h4 : B.drop at_ = l) (h5 : ∀ w0 L, Rd w0 (buf :: L) A B.length 1 (B8 B))
    (h : Sat w0 w (RB q A B.length c at_ e :: L)) : Sat w0 w (RR buf q e l :: L) := h.to_head fun _ hb => ⟨(A, c, B, at_), ⟨h1, h2, h3, h4, h5⟩, hb⟩

theorem refNumberR {w0 w : World} {L : List HP} {buf : HP} {q : Nat} (e : Int) (l : List UInt8) (hs : Sat w0 w (RR buf q e l :: buf :: L)) :
    Calls Try.prog 61 #[.pointer (some ⟨q, 0, none⟩)] w fun r w' => r = .returned (.int .i64 (rdNumber e l).1) ∧ Sat w0 w' (RR buf q (rdNumber e l).2.1 (rdNumber e l).2.2 :: buf :: L) := by
  obtain ⟨A, c, B, at_, h1, h2, h3, rfl, h5, h6⟩ := RR.opened hs
  refine (refNumber_read e B h1 h3 h5 h6).mono ?_
  rintro r w' ⟨at2, h7, h8, rfl, h9⟩
  exact ⟨rfl, RR.made h1 h2 h7 h8 h5 h9⟩

theorem refLeftR {w0 w : World} {L : List HP} {buf : HP} {q : Nat} {e : Int} {l : List UInt8} (hs : Sat w0 w (RR buf q e l :: L)) :
    Calls Try.prog 77 #[.pointer (some ⟨q, 0, none⟩)] w fun r w' => r = .returned (.int .i64 l.length) ∧ Sat w0 w' (RR buf q e l :: L) := by
  obtain ⟨A, c, B, at_, h1, h2, h3, rfl, h5, h6⟩ := RR.opened hs
  refine (refLeft_spec h1 h3 h6 (Cl.blk rfl) (Cl.blk rfl)).mono ?_
  rintro r w' ⟨rfl, h9⟩
  exact ⟨by rw [List.length_drop], RR.made h1 h2 h3 rfl h5 h9⟩

/-- A new reader of the document's. -/
def RetNewR (w0 : World) (L : List HP) (l : List UInt8) (r : Ending) (w' : World) : Prop := ∃ p buf, r = .returned (.pointer (some ⟨p, 0, none⟩)) ∧ Sat w0 w' (RR buf p 0 l :: buf :: L)

set_option maxHeartbeats 400000 in
theorem refNew_spec {w0 w : World} {L : List HP} {A : Option Addr} {c : Nat} (l : List UInt8) (hl : l.length ≤ 4294967296) (hs : Sat w0 w L) (hR : Rd w0 L A l.length 1 (B8 l)) :
    Calls Try.prog 60 #[.slice A l.length c] w (RetNewR w0 L l) := by
  go_enter Try.func60, Try.ntmps60
  go_wp2_with (first | ((with_reducible apply wl_box); assumption; (go_simp; rfl); intro b w1 hs1; simp only [Value.cells] at hs1) | ((with_reducible apply wl_buildSlice); assumption; rfl; (go_simp; rfl); (simp [Value.cells]); omega; intro b w1 hs1) | ((with_reducible apply wl_append); go_must (assumption; rfl; rfl; (repeat (first | exact Out.here _ | apply Out.there)); (repeat (first | assumption | exact Rd.own | exact Rd.nil | apply Rd.cons)); (first | exact B8_one _ | exact I8_one _ | (simp [Value.oneCell'])); (first | omega | (simp only [maxLen]; omega)); omega; intro A1 c1 w1 hs1 hc1; (try ((refine hs1.own_elim ?_ ?_); omega; rintro g1 rfl)); try simp only [Nat.zero_add, List.nil_append] at hs1 hc1)))
  go_ret
  exact ⟨_, _, rfl, RR.made hl hc1 (Nat.zero_le _) rfl (fun w0 L => Rd.own) hs1⟩

theorem refEnd_spec {w0 w : World} {L : List HP} {buf : HP} {q : Nat} {e : Int} {l : List UInt8} (hs : Sat w0 w (RR buf q e l :: L)) :
    Calls Try.prog 63 #[.pointer (some ⟨q, 0, none⟩)] w fun r w' => r = .returned (.int .i64 (rdEnd e l)) ∧ Sat w0 w' (RR buf q e l :: L) := by
  obtain ⟨A, c, B, at_, h1, h2, h3, h4, h5, h6⟩ := RR.opened hs
  have hll : (l.length : Int) ≤ 4294967296 := by rw [← h4, List.length_drop]; omega
  unfold rdEnd
  have h6' : Sat w0 w (blk q (.cells #[.slice A B.length c, .int .i64 at_, .int .i64 e] 112 (0, 0)) :: L) := h6
  by_cases he : e ≠ 0
  · have h0 : (e == 0) = false := by simp [he]
    rw [if_pos he]
    clear h4
    go_enter Try.func63, Try.ntmps63
    go_wp2_with ((with_reducible apply wl_load); assumption; rfl; (repeat (first | assumption | exact Cl.blk rfl | apply Cl.cons)))
    go_ret
    exact ⟨rfl, hs⟩
  · obtain rfl : e = 0 := by omega
    rw [if_neg he]
    have H4 : Hid (B.drop at_ = l) := h4
    clear h4 he
    by_cases hl : 0 < l.length
    all_goals
      first | rw [if_pos hl] | rw [if_neg hl]
      go_enter Try.func63, Try.ntmps63
      go_wp2_with (first | (go_at_call 77; refine (refLeftR hs).mono ?_; rintro e' w' ⟨rfl, hs2⟩; obtain ⟨A, c, B, at_, h1, h2, h3, h4, h5, h7⟩ := RR.opened hs2; clear h4; have h8 : Sat w0 w' (blk q (.cells #[.slice A B.length c, .int .i64 at_, .int .i64 0] 112 (0, 0)) :: L) := h7) | ((with_reducible apply wl_unguard); rfl) | ((with_reducible apply wl_load); assumption; rfl; (repeat (first | assumption | exact Cl.blk rfl | apply Cl.cons))))
      go_ret
      exact ⟨rfl, hs2⟩

set_option maxHeartbeats 2000000 in
theorem refBytesR {w0 w : World} {L : List HP} {buf : HP} {q : Nat} (e : Int) (l : List UInt8) (hs : Sat w0 w (RR buf q e l :: buf :: L)) :
    Calls Try.prog 62 #[.pointer (some ⟨q, 0, none⟩)] w (RetS w0 (RR buf q (rdBytes e l).2.1 (rdBytes e l).2.2 :: buf :: L) (rdBytes e l).1) := by
  obtain ⟨A, c, B, at_, h1, h2, h3, hd, hR, hs1⟩ := RR.opened hs
  have hN := refNumber_read e B h1 h3 hR hs1
  rw [hd] at hN
  obtain ⟨⟨v, e2, l2⟩, hx⟩ : ∃ x, rdNumber e l = x := ⟨_, rfl⟩
  obtain ⟨hv0, hv, hl2, hv48⟩ := rdNumber_ok hx
  rw [hx] at hN
  unfold RB at hs1
  have Hd : Hid (B.drop at_ = l) := hd
  by_cases he2 : e2 ≠ 0
  · have e1 : rdBytes e l = ([], e2, l) := by simp [rdBytes, hx, he2]
    have h0 : (e2 == 0) = false := by simp [he2]
    have h0' : (e2 != 0) = true := by simp [he2]
    obtain rfl := hv he2
    rw [e1]; clear e1 hx hv hd he2
    go_enter Try.func62, Try.ntmps62
    go_wp2_with (first | (go_at_call 61; refine hN.mono ?_; rintro e' w2 ⟨at2, hb2, hd2, rfl, hs2⟩; unfold RB at hs2; have Hd2 := Hid.mk' hd2; clear hd2) | ((with_reducible apply wl_store1); assumption; rfl; (go_simp; rfl); (repeat (first | exact Out.here _ | apply Out.there)); rfl; rfl; simp; intro w1 hs1; (try simp only [List.setIfInBounds_toArray] at hs1); (try simp only [List.set_cons_succ] at hs1); (try simp only [List.set_cons_zero] at hs1)) | ((with_reducible apply wl_load); assumption; rfl; (repeat (first | assumption | exact Cl.blk rfl | apply Cl.cons))))
    go_ret
    exact ⟨none, 0, rfl, Sat.own_nil (RR.made h1 h2 h3 Hd.out hR hs1) _ _⟩
  obtain rfl : e2 = 0 := by omega
  by_cases hb : 1048576 < v
  · have e1 : rdBytes e l = ([], 21, l) := by simp [rdBytes, hx, hb]
    rw [e1]; clear e1 hx hv hd he2
    go_enter Try.func62, Try.ntmps62
    go_wp2_with (first | (go_at_call 61; refine hN.mono ?_; rintro e' w2 ⟨at2, hb2, hd2, rfl, hs2⟩; unfold RB at hs2; have Hd2 := Hid.mk' hd2; clear hd2) | ((with_reducible apply wl_unguard); rfl) | ((with_reducible apply wl_store1); assumption; rfl; (go_simp; rfl); (repeat (first | exact Out.here _ | apply Out.there)); rfl; rfl; simp; intro w1 hs1; (try simp only [List.setIfInBounds_toArray] at hs1); (try simp only [List.set_cons_succ] at hs1); (try simp only [List.set_cons_zero] at hs1)) | ((with_reducible apply wl_load); assumption; rfl; (repeat (first | assumption | exact Cl.blk rfl | apply Cl.cons))))
    go_ret
    exact ⟨none, 0, rfl, Sat.own_nil (RR.made h1 h2 h3 Hd.out hR hs1) _ _⟩
  by_cases hb2 : (l2.length : Int) < v
  · have e1 : rdBytes e l = ([], 20, l) := by simp [rdBytes, hx, hb, hb2]
    rw [e1]; clear e1 hx hv hd he2
    go_enter Try.func62, Try.ntmps62
    go_wp2_with (first | (go_at_call 61; refine hN.mono ?_; rintro e' w2 ⟨at2, hb2, hd2, rfl, hs2⟩; (have hl3 : ((B.length - at2 : Nat) : Int) < v := by rw [← List.length_drop, hd2]; assumption); unfold RB at hs2; have Hd2 := Hid.mk' hd2; clear hd2) | (go_at_call 77; refine (refLeft_spec h1 (by assumption) (by assumption) (Cl.blk rfl) (Cl.blk rfl)).mono ?_; rintro e' w' ⟨rfl, hs3⟩) | ((with_reducible apply wl_unguard); rfl) | ((with_reducible apply wl_store1); assumption; rfl; (go_simp; rfl); (repeat (first | exact Out.here _ | apply Out.there)); rfl; rfl; simp; intro w1 hs1; (try simp only [List.setIfInBounds_toArray] at hs1); (try simp only [List.set_cons_succ] at hs1); (try simp only [List.set_cons_zero] at hs1)) | ((with_reducible apply wl_load); assumption; rfl; (repeat (first | assumption | exact Cl.blk rfl | apply Cl.cons))))
    go_ret
    exact ⟨none, 0, rfl, Sat.own_nil (RR.made h1 h2 h3 Hd.out hR hs1) _ _⟩
  have Hv : Hid (v = ((v.toNat : Nat) : Int)) := (Int.toNat_of_nonneg hv0).symm
  have hnl : v.toNat ≤ l2.length := by omega
  have hnb : v.toNat ≤ 1048576 := by omega
  have e1 : rdBytes e l = (l2.take v.toNat, 0, l2.drop v.toNat) := by simp [rdBytes, hx, hb, hb2]
  rw [e1]; clear e1 hx hv he2
  generalize v.toNat = n at *
  clear hd
  go_enter Try.func62, Try.ntmps62
  go_wp2_with (first | (go_at_call 61; refine hN.mono ?_; rintro e' w2 ⟨at2, hb2, hd2, rfl, hs2⟩; (have hl3 : v ≤ ((B.length - at2 : Nat) : Int) := by rw [← List.length_drop, hd2]; omega); unfold RB at hs2; have Hd2 := Hid.mk' hd2; clear hd2) | (go_at_call 77; refine (refLeft_spec h1 (by assumption) (by assumption) (Cl.blk rfl) (Cl.blk rfl)).mono ?_; rintro e' w' ⟨rfl, hs3⟩) | ((with_reducible apply wl_unguard); rfl) | ((with_reducible apply wl_store1); assumption; rfl; (go_simp; rfl); (repeat (first | exact Out.here _ | apply Out.there)); rfl; rfl; simp; intro w1 hs1; (try simp only [List.setIfInBounds_toArray] at hs1); (try simp only [List.set_cons_succ] at hs1); (try simp only [List.set_cons_zero] at hs1)) | ((with_reducible apply wl_load); assumption; rfl; (repeat (first | assumption | exact Cl.blk rfl | apply Cl.cons))))
  have hz : (at2 : Int) + v = ((at2 + n : Nat) : Int) := by rw [Hv.out]; omega
  rw [hz] at hs1 ⊢
  have hvn := Hv.out
  have f0 : IntKind.i64.wrap (((at2 + n : Nat) : Int) - v) = (at2 : Int) := by rw [show ((at2 + n : Nat) : Int) - v = (at2 : Int) from by omega]; exact IntWalk.i64_in _ (by omega)
  have f1 : (0 : Int) ≤ (at2 : Int) := by omega
  have f2 : (at2 : Int) ≤ ((at2 + n : Nat) : Int) := by omega
  have f3 : ((at2 + n : Nat) : Int) ≤ (c : Int) := by omega
  have f4 : (((at2 + n : Nat) : Int) - (at2 : Int)).toNat = n := by omega
  have k0 : ∀ w', Sat w0 w' (blk q (.cells #[.slice A B.length c, .int .i64 ((at2 + n : Nat) : Int), .int .i64 0] 112 (0, 0)) :: buf :: L) → w'.cell? ⟨q, 0, none⟩ = some (.slice A B.length c) := Cl.blk rfl
  have k1 : ∀ w', Sat w0 w' (blk q (.cells #[.slice A B.length c, .int .i64 ((at2 + n : Nat) : Int), .int .i64 0] 112 (0, 0)) :: buf :: L) → w'.cell? ⟨q, 1, none⟩ = some (.int .i64 ((at2 + n : Nat) : Int)) := Cl.blk rfl
  have hRx : Rd w0 (buf :: L) (if c = at2 then A else A.map (·.add at2)) (at2 + n - at2) 1 (B8 (l2.take n)) := by
    have := win_of A B.length c at2 (at2 + n) (by omega) (by omega) h2 _ _ _ (hR w0 L)
    rw [← Hd2.out]
    simpa [B8] using this
  generalize hzn : at2 + n = z at *
  have Hz : Hid (at2 + n = z) := hzn
  clear hzn hvn hz
  go_region_held3 (fun w' => Sat w0 w' (blk q (.cells #[.slice A B.length c, .int .i64 (z : Int), .int .i64 0] 112 (0, 0)) :: buf :: L)) (first | assumption | (apply Sat.drew; assumption) | exact ((hs1.drew).alloc _).tail | (apply Sat.tail; assumption)) ((rw [if_pos (by rfl)]; have hown : Sat w0 _ (own 5 1 (some ⟨w1.heap.size, 0, none⟩) 0 0 [] :: (blk q (.cells #[.slice A B.length c, .int .i64 (z : Int), .int .i64 0] 112 (0, 0)) :: buf :: L)) := Sat.own_mk ((hs1.alloc (.cells #[] 5)).drew) rfl (Nat.le_refl _) (by simp [maxLen]) rfl rfl; refine st_append hown rfl rfl (.here _) ?hr (B8_one (l2.take n)) ?hm ?hby ?h; (case hr => exact hRx.cons.cons); (case hm => (simp only [maxLen]; omega)); (case hby => omega); intro A4 c4 w5 hs5 hc5))
  all_goals go_wp2
  all_goals go_ret
  all_goals
    simp only [Nat.zero_add, List.nil_append] at hs5
    exact RetS.mk (RR.made (at_ := z) (l := l2.drop n) h1 h2 (by rw [← Hz.out]; have := Hv.out; omega) (by rw [← Hz.out, ← Hd2.out, List.drop_drop]) hR hs5.swap) (by (repeat (first | exact Pick.nil _ | exact Pick.tail _ | exact Out.here _ | apply Out.there | apply Pick.cons | apply Pick.drop))) rfl (by rw [← Hz.out]; simp; omega)
end Go.Proofs.Ytdlimjcidblneaa
