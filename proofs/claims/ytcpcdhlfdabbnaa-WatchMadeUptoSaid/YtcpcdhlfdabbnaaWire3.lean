/-
  The law's own helpers over bytes that were lent, and the statement WirePuts' walk.
-/
import Derived.Test.YtcpcdhlfdabbnaaWire2
import Derived.Deep.RegionHeld3
import Derived.IntWalk
namespace Go.Proofs.Ytcpcdhlfdabbnaa
open Go Go.RowKit Sl

theorem Rd.out {w0 : World} {p : HP} {L M : List HP} {A n sz xs} (ho : Out p L M) (h : Rd w0 (p :: M) A n sz xs) : Rd w0 L A n sz xs := fun w hs => h w (hs.out ho)

def I8 (l : List Int) : List Value := l.map (Value.int .i64)
theorem I8_length (l : List Int) : (I8 l).length = l.length := by simp [I8]
theorem I8_at (l : List Int) (k : Nat) (n : Int) (h : l[k]? = some n) : (I8 l)[k]? = some (.int .i64 n) := by simp [I8, h]

def rise (last : Int) : List Int → Bool
  | [] => true
  | n :: r => decide (last < n ∧ n < 16) && rise n r

def srvBytes (l : List Int) : List UInt8 := num l.length ++ (l.map fun n => num n.toNat).flatten
def okServers (l : List Int) : Bool := decide (1 ≤ l.length ∧ l.length ≤ 7) && rise (-1) l
def putServers (l : List Int) : List UInt8 × Int := if okServers l then (srvBytes l, 0) else ([], 1)

def PsInv (l : List Int) (k : Nat) (last : Int) (acc : List UInt8) : Prop :=
  rise (-1) l = rise last (l.drop k) ∧ acc = num l.length ++ ((l.take k).map fun n => num n.toNat).flatten

theorem PsInv.start (l : List Int) : PsInv l 0 (-1) (num l.length) := ⟨rfl, by simp⟩
theorem drop_at {α : Type} (l : List α) (k : Nat) (n : α) (h : l[k]? = some n) : l.drop k = n :: l.drop (k + 1) := by
  obtain ⟨h1, h2⟩ := List.getElem?_eq_some_iff.1 h
  rw [List.drop_eq_getElem_cons h1, h2]

theorem PsInv.step {l : List Int} {k : Nat} {last n : Int} {acc : List UInt8} (h : l[k]? = some n) (h1 : last < n) (h2 : n < 16) (hi : PsInv l k last acc) : PsInv l (k + 1) n (acc ++ num n.toNat) := by
  refine ⟨?_, ?_⟩
  · rw [hi.1, drop_at l k n h]; simp [rise, h1, h2]
  · rw [hi.2, List.take_add_one, h]; simp

theorem PsInv.bad {l : List Int} {k : Nat} {last n : Int} {acc : List UInt8} (h : l[k]? = some n) (h1 : ¬ (last < n ∧ n < 16)) (hi : PsInv l k last acc) : putServers l = ([], 1) := by
  have e : okServers l = false := by unfold okServers; rw [hi.1, drop_at l k n h]; simp only [rise, h1, decide_false, Bool.false_and, Bool.and_false]
  simp [putServers, e]

theorem PsInv.done {l : List Int} {k : Nat} {last : Int} {acc : List UInt8} (h : l.length ≤ k) (h1 : 1 ≤ l.length) (h2 : l.length ≤ 7) (hi : PsInv l k last acc) : putServers l = (acc, 0) := by
  have e : okServers l = true := by unfold okServers; rw [hi.1, List.drop_of_length_le h]; simp [rise, h1, h2]
  have e2 : acc = srvBytes l := by rw [hi.2, List.take_of_length_le h]; rfl
  simp [putServers, e, e2]

theorem putServers_len {l : List Int} (h : ¬ (1 ≤ l.length ∧ l.length ≤ 7)) : putServers l = ([], 1) := by
  have e : okServers l = false := by unfold okServers; simp only [h, decide_false, Bool.false_and]
  simp [putServers, e]

set_option maxHeartbeats 1000000 in
theorem putServers_spec {w0 w : World} {L : List HP} {A : Option Addr} {c : Nat} (l : List Int) (n : Nat) (hn : n = l.length) (hl : n ≤ 4294967296) (hs : Sat w0 w L) (hR : Rd w0 L A n 1 (I8 l)) :
    Calls Try.prog 74 #[.slice A n c] w (RetT w0 L (putServers l)) := by
  have hn1 : n ≤ l.length := by omega
  have hn2 : l.length ≤ n := by omega
  clear hn
  by_cases h1 : n < 1
  · have e := putServers_len (l := l) (by omega)
    rw [e]; clear e hn1 hn2
    go_enter Try.func74, Try.ntmps74
    go_wp2
    go_ret2
    exact RetT.mk (hs.own_nil _ _) (by (repeat (first | exact Pick.nil _ | exact Pick.tail _ | exact Out.here _ | apply Out.there | apply Pick.cons | apply Pick.drop))) rfl rfl rfl
  by_cases h2 : 7 < n
  · have e := putServers_len (l := l) (by omega)
    rw [e]; clear e hn1 hn2
    go_enter Try.func74, Try.ntmps74
    go_wp2
    go_ret2
    exact RetT.mk (hs.own_nil _ _) (by (repeat (first | exact Pick.nil _ | exact Pick.tail _ | exact Out.here _ | apply Out.there | apply Pick.cons | apply Pick.drop))) rfl rfl rfl
  have g1 : 1 ≤ n := by omega
  have g2 : n ≤ 7 := by omega
  obtain ⟨b, off, rfl⟩ := hR.some_of hs (by omega)
  clear h1 h2
  have hnl := num_len n (by omega)
  go_enter Try.func74, Try.ntmps74
  go_wp2_with (first | (first | ((with_reducible apply wl_unguard); rfl) | ((with_reducible apply wl_buildSlice); assumption; rfl; (go_simp; rfl); (simp [Value.cells]); omega; intro b w1 hs1) | ((with_reducible apply wl_append); go_must (assumption; rfl; rfl; (repeat (first | exact Out.here _ | apply Out.there)); (repeat (first | assumption | exact Rd.own | exact Rd.nil | apply Rd.cons)); (first | exact B8_one _ | exact I8_one _ | (simp [Value.oneCell'])); (first | omega | (simp only [maxLen]; omega)); omega; intro A1 c1 w1 hs1 hc1; (try ((refine hs1.own_elim ?_ ?_); omega; rintro g1 rfl)); try simp only [Nat.zero_add, List.nil_append] at hs1 hc1)) | ((with_reducible apply wl_store_own); assumption; rfl; (go_simp; rfl); (repeat (first | exact Out.here _ | apply Out.there)); rfl; rfl; omega; intro w1 hs1) | ((with_reducible apply wl_store1); assumption; rfl; (go_simp; rfl); (repeat (first | exact Out.here _ | apply Out.there)); rfl; rfl; simp; intro w1 hs1; (try simp only [List.setIfInBounds_toArray] at hs1); (try simp only [List.set_cons_succ] at hs1); (try simp only [List.set_cons_zero] at hs1)) | ((with_reducible apply wl_load); assumption; rfl; (repeat (first | assumption | exact Cl.blk rfl | apply Cl.cons))) | ((with_reducible apply wl_b2s); assumption; rfl; (repeat (first | assumption | exact Rd.own | exact Rd.nil | apply Rd.cons)); first | rfl | (simp [B8_app]))) | (go_at_call 86; refine (number_nat n (by omega) hs).mono ?_; rintro e w1 ⟨A1, c1, rfl, hs1⟩) | fail)
  go_loopw [4, 5, 21] (fun v z i wr => ∃ (k : Nat) (A2 : Option Addr) (c2 m : Nat) (last : Int) (acc : List UInt8), k ≤ n ∧ i = .int .i64 k ∧ z = .int .i64 last ∧ v = .slice A2 m c2 ∧ m = acc.length ∧ -1 ≤ last ∧ acc.length ≤ 8 + 8 * k ∧ PsInv l k last acc ∧ Sat w0 wr (own 5 1 A2 c2 m (B8 acc) :: L)) (fun _ _ i _ => n - (intOf i).toNat)
  case atStart => exact ⟨0, A1, c1, _, -1, num n, Nat.zero_le _, rfl, rfl, rfl, rfl, by omega, by omega, by rw [show n = l.length from by omega]; exact PsInv.start l, hs1⟩
  case round =>
    obtain ⟨k, A2, c2, m, last, acc, hk, rfl, rfl, rfl, hm, hla, hac, hinv, hs2⟩ := hrel
    have hm1 : m ≤ 8 + 8 * k := by omega
    have Hm : Hid (m = acc.length) := hm
    clear hs1 hm hnl
    by_cases hlt : k < n
    · obtain ⟨x, hx⟩ : ∃ x, l[k]? = some x := ⟨l[k]'(by omega), List.getElem?_eq_getElem (by omega)⟩
      have hc := (hR.elt (I8_at l k x hx)).cons (p := own 5 1 A2 c2 m (B8 acc))
      have Hx : Hid (l[k]? = some x) := hx
      clear hx hn1 hn2
      by_cases h3 : x ≤ last
      · have He : Hid (putServers l = ([], 1)) := hinv.bad Hx.out (by omega)
        go_wp2_with (first | (first | ((with_reducible apply wl_unguard); rfl) | ((with_reducible apply wl_buildSlice); assumption; rfl; (go_simp; rfl); (simp [Value.cells]); omega; intro b w1 hs1) | ((with_reducible apply wl_append); go_must (assumption; rfl; rfl; (repeat (first | exact Out.here _ | apply Out.there)); (repeat (first | assumption | exact Rd.own | exact Rd.nil | apply Rd.cons)); (first | exact B8_one _ | exact I8_one _ | (simp [Value.oneCell'])); (first | omega | (simp only [maxLen]; omega)); omega; intro A1 c1 w1 hs1 hc1; (try ((refine hs1.own_elim ?_ ?_); omega; rintro g1 rfl)); try simp only [Nat.zero_add, List.nil_append] at hs1 hc1)) | ((with_reducible apply wl_store_own); assumption; rfl; (go_simp; rfl); (repeat (first | exact Out.here _ | apply Out.there)); rfl; rfl; omega; intro w1 hs1) | ((with_reducible apply wl_store1); assumption; rfl; (go_simp; rfl); (repeat (first | exact Out.here _ | apply Out.there)); rfl; rfl; simp; intro w1 hs1; (try simp only [List.setIfInBounds_toArray] at hs1); (try simp only [List.set_cons_succ] at hs1); (try simp only [List.set_cons_zero] at hs1)) | ((with_reducible apply wl_load); assumption; rfl; (repeat (first | assumption | exact Cl.blk rfl | apply Cl.cons))) | ((with_reducible apply wl_b2s); assumption; rfl; (repeat (first | assumption | exact Rd.own | exact Rd.nil | apply Rd.cons)); first | rfl | (simp [B8_app]))) | fail)
        go_ret2
        rw [He.out]
        exact RetT.mk (hs2.tail.own_nil _ _) (by (repeat (first | exact Pick.nil _ | exact Pick.tail _ | exact Out.here _ | apply Out.there | apply Pick.cons | apply Pick.drop))) rfl rfl rfl
      by_cases h4 : 16 ≤ x
      · have He : Hid (putServers l = ([], 1)) := hinv.bad Hx.out (by omega)
        go_wp2_with (first | (first | ((with_reducible apply wl_unguard); rfl) | ((with_reducible apply wl_buildSlice); assumption; rfl; (go_simp; rfl); (simp [Value.cells]); omega; intro b w1 hs1) | ((with_reducible apply wl_append); go_must (assumption; rfl; rfl; (repeat (first | exact Out.here _ | apply Out.there)); (repeat (first | assumption | exact Rd.own | exact Rd.nil | apply Rd.cons)); (first | exact B8_one _ | exact I8_one _ | (simp [Value.oneCell'])); (first | omega | (simp only [maxLen]; omega)); omega; intro A1 c1 w1 hs1 hc1; (try ((refine hs1.own_elim ?_ ?_); omega; rintro g1 rfl)); try simp only [Nat.zero_add, List.nil_append] at hs1 hc1)) | ((with_reducible apply wl_store_own); assumption; rfl; (go_simp; rfl); (repeat (first | exact Out.here _ | apply Out.there)); rfl; rfl; omega; intro w1 hs1) | ((with_reducible apply wl_store1); assumption; rfl; (go_simp; rfl); (repeat (first | exact Out.here _ | apply Out.there)); rfl; rfl; simp; intro w1 hs1; (try simp only [List.setIfInBounds_toArray] at hs1); (try simp only [List.set_cons_succ] at hs1); (try simp only [List.set_cons_zero] at hs1)) | ((with_reducible apply wl_load); assumption; rfl; (repeat (first | assumption | exact Cl.blk rfl | apply Cl.cons))) | ((with_reducible apply wl_b2s); assumption; rfl; (repeat (first | assumption | exact Rd.own | exact Rd.nil | apply Rd.cons)); first | rfl | (simp [B8_app]))) | fail)
        go_ret2
        rw [He.out]
        exact RetT.mk (hs2.tail.own_nil _ _) (by (repeat (first | exact Pick.nil _ | exact Pick.tail _ | exact Out.here _ | apply Out.there | apply Pick.cons | apply Pick.drop))) rfl rfl rfl
      have h3' : last < x := by omega
      have h4' : x < 16 := by omega
      have hnx := num_len x.toNat (by omega)
      have hinv' := hinv.step Hx.out h3' h4'
      clear h3 h4
      go_wp2_with (first | (first | ((with_reducible apply wl_unguard); rfl) | ((with_reducible apply wl_buildSlice); assumption; rfl; (go_simp; rfl); (simp [Value.cells]); omega; intro b w1 hs1) | ((with_reducible apply wl_append); go_must (assumption; rfl; rfl; (repeat (first | exact Out.here _ | apply Out.there)); (repeat (first | assumption | exact Rd.own | exact Rd.nil | apply Rd.cons)); (first | exact B8_one _ | exact I8_one _ | (simp [Value.oneCell'])); (first | omega | (simp only [maxLen]; omega)); omega; intro A1 c1 w1 hs1 hc1; (try ((refine hs1.own_elim ?_ ?_); omega; rintro g1 rfl)); try simp only [Nat.zero_add, List.nil_append] at hs1 hc1)) | ((with_reducible apply wl_store_own); assumption; rfl; (go_simp; rfl); (repeat (first | exact Out.here _ | apply Out.there)); rfl; rfl; omega; intro w1 hs1) | ((with_reducible apply wl_store1); assumption; rfl; (go_simp; rfl); (repeat (first | exact Out.here _ | apply Out.there)); rfl; rfl; simp; intro w1 hs1; (try simp only [List.setIfInBounds_toArray] at hs1); (try simp only [List.set_cons_succ] at hs1); (try simp only [List.set_cons_zero] at hs1)) | ((with_reducible apply wl_load); assumption; rfl; (repeat (first | assumption | exact Cl.blk rfl | apply Cl.cons))) | ((with_reducible apply wl_b2s); assumption; rfl; (repeat (first | assumption | exact Rd.own | exact Rd.nil | apply Rd.cons)); first | rfl | (simp [B8_app]))) | (go_at_call 86; refine (number_spec x (by omega) (by omega) hs2).mono ?_; rintro e w1 ⟨A1, c1, rfl, hs1⟩) | fail)
      go_roundw
      case rel => exact ⟨k + 1, _, _, _, x, acc ++ num x.toNat, by omega, by go_num, rfl, rfl, by rw [Hm.out]; simp, by omega, by simp; omega, hinv', hs1.pick (by rw [B8_app]; (repeat (first | exact Pick.nil _ | exact Pick.tail _ | exact Out.here _ | apply Out.there | apply Pick.cons | apply Pick.drop)))⟩
      case measure => simp [intOf]; omega
    · have He : Hid (putServers l = (acc, 0)) := hinv.done (by omega) (by omega) (by omega)
      go_wp2
      go_ret2
      rw [He.out]
      exact RetT.mk hs2 (by (repeat (first | exact Pick.nil _ | exact Pick.tail _ | exact Out.here _ | apply Out.there | apply Pick.cons | apply Pick.drop))) rfl Hm.out rfl
end Go.Proofs.Ytcpcdhlfdabbnaa
