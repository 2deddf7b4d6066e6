/-
  wire.number and its plain law.
-/
import Derived.Test.YtdlimjcidblneaaTy
import Derived.Test.YtdlimjcidblneaaRows
import Derived.Test.YtdlimjcidblneaaSl
import Derived.WalkSpells
import Derived.WalkLawsBesides
import Derived.Deep.RegionHeld3
import Derived.IntWalk
namespace Go.Proofs.Ytdlimjcidblneaa
open Go Go.RowKit Sl

def le (n : Nat) : List UInt8 := if h : n = 0 then [] else UInt8.ofNat n :: le (n / 256)
termination_by n
theorem le_zero : le 0 = [] := by rw [le]; rfl
theorem le_pos (n : Nat) (h : n ≠ 0) : le n = UInt8.ofNat n :: le (n / 256) := by rw [le, dif_neg h]
def num (n : Nat) : List UInt8 := UInt8.ofNat (le n).length :: le n
theorem le_len (n : Nat) : ∀ k, n < 256 ^ k → (le n).length ≤ k := by
  induction n using Nat.strongRecOn with
  | _ n ih =>
    intro k hk
    by_cases h : n = 0
    · subst h; simp [le_zero]
    · rw [le_pos n h]
      cases k with
      | zero => simp at hk; omega
      | succ k =>
        have := ih (n / 256) (by omega) k (by rw [Nat.pow_succ] at hk; omega)
        simp; omega

/-- It has returned the bytes l in memory of its own. -/
def RetS (w0 : World) (L : List HP) (l : List UInt8) (e : Ending) (w' : World) : Prop := ∃ A c, e = .returned (.slice A l.length c) ∧ Sat w0 w' (own 5 1 A c l.length (B8 l) :: L)

set_option pp.maxSteps 600

theorem RetS.mk {w0 w : World} {L L' : List HP} {l : List UInt8} {A : Option Addr} {c n : Nat} {xs : List Value} (hs : Sat w0 w L') (hp : Pick L' (own 5 1 A c n xs :: L)) (hx : xs = B8 l) (hn : n = l.length) :
    RetS w0 L l (.returned (.slice A n c)) w := by
  subst hx hn; exact ⟨A, c, rfl, hs.pick hp⟩

/-- It has returned the bytes l in memory of its own, and the number r. -/
def RetT (w0 : World) (L : List HP) (x : List UInt8 × Int) (e : Ending) (w' : World) : Prop := ∃ A c, e = .returned (.tuple #[.slice A x.1.length c, .int .i64 x.2]) ∧ Sat w0 w' (own 5 1 A c x.1.length (B8 x.1) :: L)
theorem RetT.mk {w0 w : World} {L L' : List HP} {x : List UInt8 × Int} {A : Option Addr} {c n : Nat} {r : Int} {xs : List Value} (hs : Sat w0 w L') (hp : Pick L' (own 5 1 A c n xs :: L)) (hx : xs = B8 x.1) (hn : n = x.1.length) (hr : r = x.2) :
    RetT w0 L x (.returned (.tuple #[.slice A n c, .int .i64 r])) w := by
  subst hx hn hr; exact ⟨A, c, rfl, hs.pick hp⟩

set_option maxHeartbeats 400000 in
theorem number_nat {w0 w : World} {L : List HP} (n : Nat) (hn : n < 256 ^ 7) (hs : Sat w0 w L) :
    Calls Try.prog 65 #[.int .i64 n] w (RetS w0 L (num n)) := by
  go_enter Try.func65, Try.ntmps65
  go_wp2_with ((with_reducible apply wl_buildSlice); assumption; rfl; (go_simp; rfl); (simp [Value.cells]); omega; intro b w1 hs1)
  go_loopw [0, 3] (fun x v wr => ∃ (m : Nat) (pre : List UInt8) (A : Option Addr) (c : Nat), x = .int .i64 m ∧ m < 256 ^ 7 ∧ le n = pre ++ le m ∧ v = .slice A (pre.length + 1) c ∧ Sat w0 wr (own 5 1 A c (pre.length + 1) (B8 (0 :: pre)) :: L)) (fun x _ _ => (intOf x).toNat)
  case atStart => exact ⟨n, [], _, _, rfl, hn, rfl, rfl, hs1⟩
  case round =>
    obtain ⟨m, pre, A, c, rfl, hm, hle, rfl, hs2⟩ := hrel
    clear hs hs1
    have hlen := le_len n 7 hn
    have hpl : pre.length ≤ 7 := by have := congrArg List.length hle; simp at this; omega
    clear hlen
    have Hle : Hid (le n = pre ++ le m) := hle; clear hle
    by_cases h0 : 0 < m
    · go_wp2_with (first | ((with_reducible apply wl_buildSlice); assumption; rfl; (go_simp; rfl); (simp [Value.cells]); omega; intro b w1 hs1) | ((with_reducible apply wl_append); go_must (assumption; rfl; rfl; (repeat (first | exact Out.here _ | apply Out.there)); (repeat (first | assumption | exact Rd.own | exact Rd.nil | apply Rd.cons)); (first | exact B8_one _ | exact I8_one _ | (simp [Value.oneCell'])); (first | omega | (simp only [maxLen]; omega)); omega; intro A1 c1 w1 hs1 hc1; (try ((refine hs1.own_elim ?_ ?_); omega; rintro g1 rfl)); try simp only [Nat.zero_add, List.nil_append] at hs1 hc1)))
      go_roundw
      case rel =>
        refine ⟨m / 256, pre ++ [UInt8.ofNat m], some ⟨g1, 0, none⟩, c1, by go_num, by omega, by rw [Hle.out, le_pos m (by omega)]; simp, by simp, hs1.pick ?_⟩
        rw [show B8 (0 :: (pre ++ [UInt8.ofNat m])) = B8 (0 :: pre) ++ [.int .u8 ((m : Int) % 256)] from by simp [B8, b8_ofNat], show (pre ++ [UInt8.ofNat m]).length + 1 = pre.length + 1 + 1 from by simp]
        (repeat (first | exact Pick.nil _ | exact Pick.tail _ | exact Out.here _ | apply Out.there | apply Pick.cons | apply Pick.drop))
      case measure => simp [intOf]; omega
    · obtain rfl : m = 0 := by omega
      obtain ⟨g, rfl⟩ := hs2.own_some (by omega)
      go_wp2_with (first | ((with_reducible apply wl_store_own); assumption; rfl; (go_simp; rfl); (repeat (first | exact Out.here _ | apply Out.there)); rfl; rfl; omega; intro w1 hs1))
      go_ret
      have e : le n = pre := by rw [Hle.out, le_zero, List.append_nil]
      exact RetS.mk hs1 (by (repeat (first | exact Pick.nil _ | exact Pick.tail _ | exact Out.here _ | apply Out.there | apply Pick.cons | apply Pick.drop))) (by simp [num, e, B8, b8]; omega) (by simp [num, e])

theorem number_spec {w0 w : World} {L : List HP} (n : Int) (h0 : 0 ≤ n) (hn : n < 256 ^ 7) (hs : Sat w0 w L) :
    Calls Try.prog 65 #[.int .i64 n] w (RetS w0 L (num n.toNat)) := by
  obtain ⟨n, rfl⟩ := Int.eq_ofNat_of_zero_le h0
  exact number_nat n (by omega) hs

set_option maxHeartbeats 400000 in
theorem refNumber_nat {w0 w : World} {L : List HP} (n : Nat) (hn : n < 256 ^ 7) (hs : Sat w0 w L) :
    Calls Try.prog 46 #[.int .i64 n] w (RetS w0 L (num n)) := by
  go_enter Try.func46, Try.ntmps46
  go_wp2_with (first | ((with_reducible apply wl_unguard); rfl) | ((with_reducible apply wl_buildSlice); assumption; rfl; (go_simp; rfl); (simp [Value.cells]); omega; intro b w1 hs1) | ((with_reducible apply wl_append); go_must (assumption; rfl; rfl; (repeat (first | exact Out.here _ | apply Out.there)); (repeat (first | assumption | exact Rd.own | exact Rd.nil | apply Rd.cons)); (first | exact B8_one _ | exact I8_one _ | (simp [Value.oneCell'])); (first | omega | (simp only [maxLen]; omega)); omega; intro A1 c1 w1 hs1 hc1; (try ((refine hs1.own_elim ?_ ?_); omega; rintro g1 rfl)); try simp only [Nat.zero_add, List.nil_append] at hs1 hc1)) | ((with_reducible apply wl_store_own); assumption; rfl; (go_simp; rfl); (repeat (first | exact Out.here _ | apply Out.there)); rfl; rfl; omega; intro w1 hs1) | ((with_reducible apply wl_store1); assumption; rfl; (go_simp; rfl); (repeat (first | exact Out.here _ | apply Out.there)); rfl; rfl; simp; intro w1 hs1; (try simp only [List.setIfInBounds_toArray] at hs1); (try simp only [List.set_cons_succ] at hs1); (try simp only [List.set_cons_zero] at hs1)) | ((with_reducible apply wl_load); assumption; rfl; (repeat (first | assumption | exact Cl.blk rfl | apply Cl.cons))) | ((with_reducible apply wl_b2s); assumption; rfl; (repeat (first | assumption | exact Rd.own | exact Rd.nil | apply Rd.cons)); first | rfl | (simp [B8_app])))
  go_loopw [0, 3] (fun x v wr => ∃ (m : Nat) (pre : List UInt8) (A : Option Addr) (c : Nat), x = .int .i64 m ∧ m < 256 ^ 7 ∧ le n = pre ++ le m ∧ v = .slice A pre.length c ∧ Sat w0 wr (own 5 1 A c pre.length (B8 pre) :: L)) (fun x _ _ => (intOf x).toNat)
  case atStart => exact ⟨n, [], _, _, rfl, hn, rfl, rfl, hs.own_nil _ _⟩
  case round =>
    obtain ⟨m, pre, A, c, rfl, hm, hle, rfl, hs2⟩ := hrel
    clear hs
    have hlen := le_len n 7 hn
    have hpl : pre.length ≤ 7 := by have := congrArg List.length hle; simp at this; omega
    clear hlen
    have Hle : Hid (le n = pre ++ le m) := hle; clear hle
    by_cases h0 : 0 < m
    · go_wp2_with (first | ((with_reducible apply wl_buildSlice); assumption; rfl; (go_simp; rfl); (simp [Value.cells]); omega; intro b w1 hs1) | ((with_reducible apply wl_append); go_must (assumption; rfl; rfl; (repeat (first | exact Out.here _ | apply Out.there)); (repeat (first | assumption | exact Rd.own | exact Rd.nil | apply Rd.cons)); (first | exact B8_one _ | exact I8_one _ | (simp [Value.oneCell'])); (first | omega | (simp only [maxLen]; omega)); omega; intro A1 c1 w1 hs1 hc1; (try ((refine hs1.own_elim ?_ ?_); omega; rintro g1 rfl)); try simp only [Nat.zero_add, List.nil_append] at hs1 hc1)))
      go_roundw
      case rel =>
        refine ⟨m / 256, pre ++ [UInt8.ofNat m], some ⟨g1, 0, none⟩, c1, by go_num, by omega, by rw [Hle.out, le_pos m (by omega)]; simp, by simp, hs1.pick ?_⟩
        rw [show B8 (pre ++ [UInt8.ofNat m]) = B8 pre ++ [.int .u8 ((m : Int) % 256)] from by simp [B8, b8_ofNat], show (pre ++ [UInt8.ofNat m]).length = pre.length + 1 from by simp]
        (repeat (first | exact Pick.nil _ | exact Pick.tail _ | exact Out.here _ | apply Out.there | apply Pick.cons | apply Pick.drop))
      case measure => simp [intOf]; omega
    · obtain rfl : m = 0 := by omega
      go_wp2_with (first | ((with_reducible apply wl_unguard); rfl) | ((with_reducible apply wl_buildSlice); assumption; rfl; (go_simp; rfl); (simp [Value.cells]); omega; intro b w1 hs1) | ((with_reducible apply wl_append); go_must (assumption; rfl; rfl; (repeat (first | exact Out.here _ | apply Out.there)); (repeat (first | assumption | exact Rd.own | exact Rd.nil | apply Rd.cons)); (first | exact B8_one _ | exact I8_one _ | (simp [Value.oneCell'])); (first | omega | (simp only [maxLen]; omega)); omega; intro A1 c1 w1 hs1 hc1; (try ((refine hs1.own_elim ?_ ?_); omega; rintro g1 rfl)); try simp only [Nat.zero_add, List.nil_append] at hs1 hc1)) | ((with_reducible apply wl_store_own); assumption; rfl; (go_simp; rfl); (repeat (first | exact Out.here _ | apply Out.there)); rfl; rfl; omega; intro w1 hs1) | ((with_reducible apply wl_store1); assumption; rfl; (go_simp; rfl); (repeat (first | exact Out.here _ | apply Out.there)); rfl; rfl; simp; intro w1 hs1; (try simp only [List.setIfInBounds_toArray] at hs1); (try simp only [List.set_cons_succ] at hs1); (try simp only [List.set_cons_zero] at hs1)) | ((with_reducible apply wl_load); assumption; rfl; (repeat (first | assumption | exact Cl.blk rfl | apply Cl.cons))) | ((with_reducible apply wl_b2s); assumption; rfl; (repeat (first | assumption | exact Rd.own | exact Rd.nil | apply Rd.cons)); first | rfl | (simp [B8_app])))
      go_ret
      have e : le n = pre := by rw [Hle.out, le_zero, List.append_nil]
      exact RetS.mk hs1 (by (repeat (first | exact Pick.nil _ | exact Pick.tail _ | exact Out.here _ | apply Out.there | apply Pick.cons | apply Pick.drop))) (by simp [num, e, B8, b8]; omega) (by simp [num, e]; omega)

theorem refNumber_spec {w0 w : World} {L : List HP} (n : Int) (h0 : 0 ≤ n) (hn : n < 256 ^ 7) (hs : Sat w0 w L) :
    Calls Try.prog 46 #[.int .i64 n] w (RetS w0 L (num n.toNat)) := by
  obtain ⟨n, rfl⟩ := Int.eq_ofNat_of_zero_le h0
  exact refNumber_nat n (by omega) hs

#print axioms number_spec
#print axioms refNumber_spec
end Go.Proofs.Ytdlimjcidblneaa

/-
  The walks of wire's writers: PutNumber, PutBytes, Join and what they call.
-/
namespace Go.Proofs.Ytdlimjcidblneaa
open Go Go.RowKit Sl

def putNumber (n : Int) : List UInt8 × Int := if n < 0 ∨ 281474976710656 ≤ n then ([], 11) else (num n.toNat, 0)

/-- It has returned b, and nothing has turned. -/
def RetB (w0 : World) (L : List HP) (b : Bool) (e : Ending) (w' : World) : Prop := e = .returned (.bool b) ∧ Sat w0 w' L

theorem putNumber_spec {w0 w : World} {L : List HP} (n : Int) (hs : Sat w0 w L) :
    Calls Try.prog 64 #[.int .i64 n] w (RetT w0 L (putNumber n)) := by
  by_cases h1 : n < 0
  · go_enter Try.func64, Try.ntmps64
    go_wp2
    go_ret2
    exact RetT.mk (hs.own_nil _ _) (by (repeat (first | exact Pick.nil _ | exact Pick.tail _ | exact Out.here _ | apply Out.there | apply Pick.cons | apply Pick.drop))) (by simp [putNumber, h1, B8]) (by simp [putNumber, h1]) (by simp [putNumber, h1])
  · by_cases h2 : 281474976710656 ≤ n
    · go_enter Try.func64, Try.ntmps64
      go_wp2
      go_ret2
      exact RetT.mk (hs.own_nil _ _) (by (repeat (first | exact Pick.nil _ | exact Pick.tail _ | exact Out.here _ | apply Out.there | apply Pick.cons | apply Pick.drop))) (by simp [putNumber, h2, B8]) (by simp [putNumber, h2]) (by simp [putNumber, h2])
    · have e : putNumber n = (num n.toNat, 0) := by rw [putNumber, if_neg (by omega)]
      have h3 : n < 281474976710656 := by omega
      rw [e]; clear e
      go_enter Try.func64, Try.ntmps64
      go_wp2_with (go_at_call 65; refine (number_spec _ (by omega) (by omega) hs).mono ?_; rintro e w1 ⟨A1, c1, rfl, hs1⟩)
      go_ret2
      exact RetT.mk hs1 (by (repeat (first | exact Pick.nil _ | exact Pick.tail _ | exact Out.here _ | apply Out.there | apply Pick.cons | apply Pick.drop))) rfl rfl rfl

/-- It has returned the first bytes l of a row of its own that holds l and two marks behind. -/
def RetL (w0 : World) (L : List HP) (l : List UInt8) (e : Ending) (w' : World) : Prop := ∃ g c, e = .returned (.slice (some ⟨g, 0, none⟩) l.length c) ∧ Sat w0 w' (own 5 1 (some ⟨g, 0, none⟩) c (l.length + 2) (B8 (l ++ [201, 202])) :: L)

set_option maxHeartbeats 400000 in
theorem lent_spec {w0 w : World} {L : List HP} {A : Option Addr} {c : Nat} (l : List UInt8) (hl : l.length ≤ 4294967296) (hs : Sat w0 w L) (hR : Rd w0 L A l.length 1 (B8 l)) :
    Calls Try.prog 18 #[.slice A l.length c] w (RetL w0 L l) := by
  go_enter Try.func18, Try.ntmps18
  go_wp2_with (first | ((with_reducible apply wl_unguard); rfl) | ((with_reducible apply wl_buildSlice); assumption; rfl; (go_simp; rfl); (simp [Value.cells]); omega; intro b w1 hs1) | ((with_reducible apply wl_append); go_must (assumption; rfl; rfl; (repeat (first | exact Out.here _ | apply Out.there)); (repeat (first | assumption | exact Rd.own | exact Rd.nil | apply Rd.cons)); (first | exact B8_one _ | exact I8_one _ | (simp [Value.oneCell'])); (first | omega | (simp only [maxLen]; omega)); omega; intro A1 c1 w1 hs1 hc1; (try ((refine hs1.own_elim ?_ ?_); omega; rintro g1 rfl)); try simp only [Nat.zero_add, List.nil_append] at hs1 hc1)) | ((with_reducible apply wl_store_own); assumption; rfl; (go_simp; rfl); (repeat (first | exact Out.here _ | apply Out.there)); rfl; rfl; omega; intro w1 hs1) | ((with_reducible apply wl_store1); assumption; rfl; (go_simp; rfl); (repeat (first | exact Out.here _ | apply Out.there)); rfl; rfl; simp; intro w1 hs1; (try simp only [List.setIfInBounds_toArray] at hs1); (try simp only [List.set_cons_succ] at hs1); (try simp only [List.set_cons_zero] at hs1)) | ((with_reducible apply wl_load); assumption; rfl; (repeat (first | assumption | exact Cl.blk rfl | apply Cl.cons))) | ((with_reducible apply wl_b2s); assumption; rfl; (repeat (first | assumption | exact Rd.own | exact Rd.nil | apply Rd.cons)); first | rfl | (simp [B8_app])))
  go_ret
  exact ⟨_, _, rfl, hs1.pick (by rw [show B8 (l ++ [201, 202]) = B8 l ++ [.int .u8 201, .int .u8 202] from by simp [B8, b8]]; (repeat (first | exact Pick.nil _ | exact Pick.tail _ | exact Out.here _ | apply Out.there | apply Pick.cons | apply Pick.drop)))⟩

theorem grow_nil {w0 w : World} {L : List HP} (k : Nat) (hk : k ≤ 70368744177664) (hs : Sat w0 w L) :
    Calls Try.prog 78 #[.slice none 0 0, .int .i64 k] w fun e w' => ∃ A c, e = .returned (.slice A 0 c) ∧ Sat w0 w' (own 5 1 A c 0 [] :: L) := by
  by_cases h0 : 0 < k
  · go_enter Try.func78, Try.ntmps78
    go_wp2_with ((with_reducible apply wl_appendZeros); assumption; rfl; rfl; exact Try.underlying3; rfl; omega; omega; omega; intro A1 c1 w1 hs1; (refine hs1.own_elim ?_ ?_); omega; rintro g1 rfl; have hc1 := hs1.own_cap)
    go_ret
    refine ⟨_, _, rfl, ?_⟩
    obtain ⟨_, ⟨h, _⟩ | ⟨g, cur, h1, h2, h3, h4, h5, h6⟩⟩ := hs1.own_inv
    · cases h
    · cases h1
      exact Sat.own_mk h2 rfl (Nat.zero_le _) h4 h5 (by simp)
  · obtain rfl : k = 0 := by omega
    go_enter Try.func78, Try.ntmps78
    go_wp2
    go_ret
    exact ⟨_, _, rfl, hs.own_nil _ _⟩

/-- A slice of slices of bytes reads as ls. -/
def RdBB (w0 : World) (L : List HP) (A : Option Addr) (n : Nat) (ls : List (List UInt8)) : Prop :=
  ∃ vs : List Value, Rd w0 L A n 1 vs ∧ vs.length = ls.length ∧ n = ls.length ∧ ∀ (i : Nat) (l : List UInt8), ls[i]? = some l → ∃ B c, vs[i]? = some (.slice B l.length c) ∧ Rd w0 L B l.length 1 (B8 l)

theorem flatten_take_le (ls : List (List UInt8)) (k : Nat) : (ls.take k).flatten.length ≤ ls.flatten.length := by
  have : ls.flatten = (ls.take k).flatten ++ (ls.drop k).flatten := by rw [← List.flatten_append, List.take_append_drop]
  rw [this, List.length_append]; omega

theorem flatten_take_succ (ls : List (List UInt8)) (k : Nat) (l : List UInt8) (h : ls[k]? = some l) : (ls.take (k + 1)).flatten = (ls.take k).flatten ++ l := by
  rw [List.take_add_one, h]; simp

def tot (ls : List (List UInt8)) (k : Nat) : Nat := (ls.take k).flatten.length
theorem tot_le (ls : List (List UInt8)) (k : Nat) : tot ls k ≤ ls.flatten.length := flatten_take_le ls k
theorem tot_succ (ls : List (List UInt8)) (k : Nat) (l : List UInt8) (h : ls[k]? = some l) : tot ls (k + 1) = tot ls k + l.length := by
  unfold tot; rw [flatten_take_succ ls k l h, List.length_append]

theorem tot_all (ls : List (List UInt8)) (k : Nat) (h : ls.length ≤ k) : tot ls k = ls.flatten.length := by unfold tot; rw [List.take_of_length_le h]
def cat (ls : List (List UInt8)) (k : Nat) : List UInt8 := (ls.take k).flatten
theorem cat_length (ls : List (List UInt8)) (k : Nat) : (cat ls k).length = tot ls k := rfl
theorem cat_succ (ls : List (List UInt8)) (k : Nat) (l : List UInt8) (h : ls[k]? = some l) : cat ls (k + 1) = cat ls k ++ l := flatten_take_succ ls k l h
theorem cat_all (ls : List (List UInt8)) (k : Nat) (h : ls.length ≤ k) : cat ls k = ls.flatten := by unfold cat; rw [List.take_of_length_le h]

set_option maxHeartbeats 800000 in
theorem concat_spec {w0 w : World} {L : List HP} {A : Option Addr} {n c : Nat} (ls : List (List UInt8)) (hl : ls.flatten.length ≤ 70368744177664) (hn : n ≤ 4294967296) (hs : Sat w0 w L) (hR : RdBB w0 L A n ls) :
    Calls Try.prog 66 #[.slice A n c] w (RetS w0 L ls.flatten) := by
  obtain ⟨vs, hv, hvl, hnl, hel⟩ := hR
  have hnl1 : ls.length ≤ n := by omega
  have hnl2 : n ≤ ls.length := by omega
  obtain ⟨T, hT⟩ : ∃ T, T = ls.flatten.length := ⟨_, rfl⟩
  rw [← hT] at hl
  have Hr : Hid (T = ls.flatten.length) := hT
  have Hvl : Hid (vs.length = ls.length) := hvl
  clear hnl hvl hT
  go_enter Try.func66, Try.ntmps66
  go_wp2_with fail
  go_loop [3, 11] (fun z i => ∃ k : Nat, k ≤ n ∧ i = .int .i64 k ∧ z = .int .i64 (tot ls k)) (fun _ i => n - (intOf i).toNat)
  case atStart => exact ⟨0, Nat.zero_le _, rfl, by simp [tot]⟩
  case round =>
    obtain ⟨k, hk, rfl, rfl⟩ := hrel
    by_cases hlt : k < n
    · obtain ⟨b, off, rfl⟩ := hv.some_of hs (by omega)
      obtain ⟨l, hl1⟩ : ∃ l, ls[k]? = some l := ⟨ls[k]'(by omega), List.getElem?_eq_getElem (by omega)⟩
      obtain ⟨B, d, hb1, hb2⟩ := hel k l hl1
      have hc := hv.elt hb1
      have hsz := tot_le ls (k + 1)
      have hst := tot_succ ls k l hl1
      have hlen : tot ls k + l.length ≤ 70368744177664 := by rw [hst, ← Hr.out] at hsz; omega
      have Hst : Hid (tot ls (k + 1) = tot ls k + l.length) := hst
      clear hst hl1 hb1 hel hsz
      go_wp2_with (first | ((with_reducible apply wl_unguard); rfl) | ((with_reducible apply wl_buildSlice); assumption; rfl; (go_simp; rfl); (simp [Value.cells]); omega; intro b w1 hs1) | ((with_reducible apply wl_append); go_must (assumption; rfl; rfl; (repeat (first | exact Out.here _ | apply Out.there)); (repeat (first | assumption | exact Rd.own | exact Rd.nil | apply Rd.cons)); (first | exact B8_one _ | exact I8_one _ | (simp [Value.oneCell'])); (first | omega | (simp only [maxLen]; omega)); omega; intro A1 c1 w1 hs1 hc1; (try ((refine hs1.own_elim ?_ ?_); omega; rintro g1 rfl)); try simp only [Nat.zero_add, List.nil_append] at hs1 hc1)) | ((with_reducible apply wl_store_own); assumption; rfl; (go_simp; rfl); (repeat (first | exact Out.here _ | apply Out.there)); rfl; rfl; omega; intro w1 hs1) | ((with_reducible apply wl_store1); assumption; rfl; (go_simp; rfl); (repeat (first | exact Out.here _ | apply Out.there)); rfl; rfl; simp; intro w1 hs1; (try simp only [List.setIfInBounds_toArray] at hs1); (try simp only [List.set_cons_succ] at hs1); (try simp only [List.set_cons_zero] at hs1)) | ((with_reducible apply wl_load); assumption; rfl; (repeat (first | assumption | exact Cl.blk rfl | apply Cl.cons))) | ((with_reducible apply wl_b2s); assumption; rfl; (repeat (first | assumption | exact Rd.own | exact Rd.nil | apply Rd.cons)); first | rfl | (simp [B8_app])))
      go_round
      case rel => exact ⟨k + 1, by omega, by go_num, by rw [Hst.out]; go_num⟩
      case measure => simp [intOf]; omega
    · obtain rfl : k = n := by omega
      have htk := tot_all ls k hnl1
      have hnn : 0 ≤ T := Nat.zero_le _
      rw [← Hr.out] at htk
      rw [htk]; clear htk
      go_wp2_with (first | (go_at_call 78; refine (grow_nil _ (by omega) hs).mono ?_; rintro e w1 ⟨A1, c1, rfl, hs1⟩) | fail)
      go_loopw [6, 27] (fun v i wr => ∃ (j : Nat) (A2 : Option Addr) (c2 : Nat), j ≤ k ∧ i = .int .i64 j ∧ v = .slice A2 (tot ls j) c2 ∧ Sat w0 wr (own 5 1 A2 c2 (tot ls j) (B8 (cat ls j)) :: L)) (fun _ i _ => k - (intOf i).toNat)
      case atStart => exact ⟨0, A1, c1, Nat.zero_le _, rfl, by simp [tot], by simpa [tot, cat, B8] using hs1⟩
      case round =>
        obtain ⟨j, A2, c2, hj, rfl, rfl, hs2⟩ := hrel
        clear hs1
        by_cases hlt : j < k
        · obtain ⟨b, off, rfl⟩ := hv.some_of hs (by omega)
          obtain ⟨l, hl1⟩ : ∃ l, ls[j]? = some l := ⟨ls[j]'(by omega), List.getElem?_eq_getElem (by omega)⟩
          obtain ⟨B, d, hb1, hb2⟩ := hel j l hl1
          have hc := hv.elt hb1
          have hsz := tot_le ls (j + 1)
          have hst := tot_succ ls j l hl1
          have hlen : tot ls j + l.length ≤ 70368744177664 := by rw [hst, ← Hr.out] at hsz; omega
          have Hst : Hid (tot ls (j + 1) = tot ls j + l.length) := hst
          have Hca : Hid (cat ls (j + 1) = cat ls j ++ l) := cat_succ ls j l hl1
          clear hst hl1 hb1 hel hsz hs
          go_wp2_with (first | ((with_reducible apply wl_unguard); rfl) | ((with_reducible apply wl_buildSlice); assumption; rfl; (go_simp; rfl); (simp [Value.cells]); omega; intro b w1 hs1) | ((with_reducible apply wl_append); go_must (assumption; rfl; rfl; (repeat (first | exact Out.here _ | apply Out.there)); (repeat (first | assumption | exact Rd.own | exact Rd.nil | apply Rd.cons)); (first | exact B8_one _ | exact I8_one _ | (simp [Value.oneCell'])); (first | omega | (simp only [maxLen]; omega)); omega; intro A1 c1 w1 hs1 hc1; (try ((refine hs1.own_elim ?_ ?_); omega; rintro g1 rfl)); try simp only [Nat.zero_add, List.nil_append] at hs1 hc1)) | ((with_reducible apply wl_store_own); assumption; rfl; (go_simp; rfl); (repeat (first | exact Out.here _ | apply Out.there)); rfl; rfl; omega; intro w1 hs1) | ((with_reducible apply wl_store1); assumption; rfl; (go_simp; rfl); (repeat (first | exact Out.here _ | apply Out.there)); rfl; rfl; simp; intro w1 hs1; (try simp only [List.setIfInBounds_toArray] at hs1); (try simp only [List.set_cons_succ] at hs1); (try simp only [List.set_cons_zero] at hs1)) | ((with_reducible apply wl_load); assumption; rfl; (repeat (first | assumption | exact Cl.blk rfl | apply Cl.cons))) | ((with_reducible apply wl_b2s); assumption; rfl; (repeat (first | assumption | exact Rd.own | exact Rd.nil | apply Rd.cons)); first | rfl | (simp [B8_app])))
          go_roundw
          case rel => exact ⟨j + 1, _, _, by omega, by go_num, by rw [Hst.out], hs1.pick (by rw [Hst.out, Hca.out, B8_app]; (repeat (first | exact Pick.nil _ | exact Pick.tail _ | exact Out.here _ | apply Out.there | apply Pick.cons | apply Pick.drop)))⟩
          case measure => simp [intOf]; omega
        · obtain rfl : j = k := by omega
          have Hfin : Hid (cat ls j = ls.flatten) := cat_all ls j hnl1
          clear hel
          go_wp2
          go_ret
          exact RetS.mk hs2 (by (repeat (first | exact Pick.nil _ | exact Pick.tail _ | exact Out.here _ | apply Out.there | apply Pick.cons | apply Pick.drop))) (by rw [Hfin.out]) (by rw [← Hfin.out]; rfl)

theorem concat_to {w0 w : World} {L : List HP} {A : Option Addr} {n c : Nat} (ls : List (List UInt8)) (m : List UInt8) (hm : ls.flatten = m) (hl : m.length ≤ 70368744177664) (hn : n ≤ 4294967296) (hs : Sat w0 w L) (hR : RdBB w0 L A n ls) :
    Calls Try.prog 66 #[.slice A n c] w (RetS w0 L m) := by subst hm; exact concat_spec ls hl hn hs hR

theorem join_spec {w0 w : World} {L : List HP} {A : Option Addr} {n c : Nat} (ls : List (List UInt8)) (m : List UInt8) (hm : ls.flatten = m) (hl : m.length ≤ 70368744177664) (hn : n ≤ 4294967296) (hs : Sat w0 w L) (hR : RdBB w0 L A n ls) :
    Calls Try.prog 44 #[.slice A n c] w (RetS w0 L m) := by
  have Hm : Hid (ls.flatten = m) := hm
  clear hm
  go_enter Try.func44, Try.ntmps44
  go_wp2_with (go_at_call 66; refine (concat_to ls m Hm.out hl hn hs hR).mono ?_; rintro e w1 ⟨A1, c1, rfl, hs1⟩)
  go_ret
  exact RetS.mk hs1 (by (repeat (first | exact Pick.nil _ | exact Pick.tail _ | exact Out.here _ | apply Out.there | apply Pick.cons | apply Pick.drop))) rfl rfl

def putBytes (l : List UInt8) : List UInt8 × Int := if 1048576 < l.length then ([], 6) else (num l.length ++ l, 0)

theorem num_len (n : Nat) (hn : n < 256 ^ 7) : (num n).length ≤ 8 := by
  have := le_len n 7 hn
  simp [num]; omega

/-- Two slices in a row of one's own, as a slice of slices. -/
theorem RdBB.two {w0 : World} {L : List HP} {E : TypeId} {b c : Nat} {A B : Option Addr} {ca cb na nb : Nat} {la lb : List UInt8} (ha : Rd w0 L A na 1 (B8 la)) (hb : Rd w0 L B nb 1 (B8 lb)) (ea : na = la.length) (eb : nb = lb.length) :
    RdBB w0 (own E 1 (some ⟨b, 0, none⟩) c 2 [.slice A na ca, .slice B nb cb] :: L) (some ⟨b, 0, none⟩) 2 [la, lb] := by
  subst ea eb
  refine ⟨_, Rd.own, rfl, rfl, fun i l hl => ?_⟩
  match i, hl with
  | 0, hl => cases hl; exact ⟨A, ca, rfl, ha.cons⟩
  | 1, hl => cases hl; exact ⟨B, cb, rfl, hb.cons⟩
  | i + 2, hl => simp at hl

set_option maxHeartbeats 400000 in
theorem putBytes_spec {w0 w : World} {L : List HP} {A : Option Addr} {c : Nat} (l : List UInt8) (hl : l.length ≤ 4294967296) (hs : Sat w0 w L) (hR : Rd w0 L A l.length 1 (B8 l)) :
    Calls Try.prog 43 #[.slice A l.length c] w (RetT w0 L (putBytes l)) := by
  by_cases h1 : 1048576 < l.length
  · go_enter Try.func43, Try.ntmps43
    go_wp2
    go_ret2
    exact RetT.mk (hs.own_nil _ _) (by (repeat (first | exact Pick.nil _ | exact Pick.tail _ | exact Out.here _ | apply Out.there | apply Pick.cons | apply Pick.drop))) (by simp [putBytes, h1, B8]) (by simp [putBytes, h1]) (by simp [putBytes, h1])
  · have e : putBytes l = (num l.length ++ l, 0) := by rw [putBytes, if_neg h1]
    have h2 : l.length ≤ 1048576 := by omega
    have hnl := num_len l.length (by omega)
    rw [e]; clear e h1
    go_enter Try.func43, Try.ntmps43
    go_wp2_with (first | ((with_reducible apply wl_buildSlice); assumption; rfl; (go_simp; rfl); (simp [Value.cells]); omega; intro b w1 hs1) | (go_at_call 65; refine (number_nat l.length (by omega) hs).mono ?_; rintro e w1 ⟨A1, c1, rfl, hs1⟩) | fail)
    refine (join_spec [num l.length, l] (num l.length ++ l) (by simp) (by simp; omega) (by omega) hs1 (RdBB.two Rd.own hR.cons rfl rfl)).mono ?_
    rintro e w2 ⟨A2, c2, rfl, hs2⟩
    go_wp2
    go_ret2
    simp only [List.length_append] at hs2
    exact RetT.mk hs2 (by (repeat (first | exact Pick.nil _ | exact Pick.tail _ | exact Out.here _ | apply Out.there | apply Pick.cons | apply Pick.drop))) rfl (by simp) rfl

set_option maxHeartbeats 400000 in
theorem text_spec {w0 w : World} {L : List HP} {A : Option Addr} {c : Nat} (l : List UInt8) (hl : l.length ≤ 1048576) (hs : Sat w0 w L) (hR : Rd w0 L A l.length 1 (B8 l)) :
    Calls Try.prog 47 #[.slice A l.length c] w (RetS w0 L (num l.length ++ l)) := by
  have hnl := num_len l.length (by omega)
  go_enter Try.func47, Try.ntmps47
  go_wp2_with (first | (first | ((with_reducible apply wl_unguard); rfl) | ((with_reducible apply wl_buildSlice); assumption; rfl; (go_simp; rfl); (simp [Value.cells]); omega; intro b w1 hs1) | ((with_reducible apply wl_append); go_must (assumption; rfl; rfl; (repeat (first | exact Out.here _ | apply Out.there)); (repeat (first | assumption | exact Rd.own | exact Rd.nil | apply Rd.cons)); (first | exact B8_one _ | exact I8_one _ | (simp [Value.oneCell'])); (first | omega | (simp only [maxLen]; omega)); omega; intro A1 c1 w1 hs1 hc1; (try ((refine hs1.own_elim ?_ ?_); omega; rintro g1 rfl)); try simp only [Nat.zero_add, List.nil_append] at hs1 hc1)) | ((with_reducible apply wl_store_own); assumption; rfl; (go_simp; rfl); (repeat (first | exact Out.here _ | apply Out.there)); rfl; rfl; omega; intro w1 hs1) | ((with_reducible apply wl_store1); assumption; rfl; (go_simp; rfl); (repeat (first | exact Out.here _ | apply Out.there)); rfl; rfl; simp; intro w1 hs1; (try simp only [List.setIfInBounds_toArray] at hs1); (try simp only [List.set_cons_succ] at hs1); (try simp only [List.set_cons_zero] at hs1)) | ((with_reducible apply wl_load); assumption; rfl; (repeat (first | assumption | exact Cl.blk rfl | apply Cl.cons))) | ((with_reducible apply wl_b2s); assumption; rfl; (repeat (first | assumption | exact Rd.own | exact Rd.nil | apply Rd.cons)); first | rfl | (simp [B8_app]))) | (go_at_call 46; refine (refNumber_nat l.length (by omega) hs).mono ?_; rintro e w1 ⟨A1, c1, rfl, hs1⟩) | fail)
  go_ret
  exact RetS.mk hs1 (by (repeat (first | exact Pick.nil _ | exact Pick.tail _ | exact Out.here _ | apply Out.there | apply Pick.cons | apply Pick.drop))) (by simp [B8_app]) (by simp)

end Go.Proofs.Ytdlimjcidblneaa

/-
  The law's own helpers over bytes that were lent, and the statement WirePuts' walk.
-/
namespace Go.Proofs.Ytdlimjcidblneaa
open Go Go.RowKit Sl

theorem Rd.out {w0 : World} {p : HP} {L M : List HP} {A n sz xs} (ho : Out p L M) (h : Rd w0 (p :: M) A n sz xs) : Rd w0 L A n sz xs := fun w hs => h w (hs.out ho)

set_option maxHeartbeats 1000000 in
theorem stays_spec {w0 w : World} {L M : List HP} {g c c2 : Nat} {A : Option Addr} (l : List UInt8) (hl : l.length ≤ 4294967296) (hs : Sat w0 w L)
    (ho : Out (own 5 1 (some ⟨g, 0, none⟩) c (l.length + 2) (B8 (l ++ [201, 202]))) L M) (hR : Rd w0 L A l.length 1 (B8 l)) :
    Calls Try.prog 24 #[.slice (some ⟨g, 0, none⟩) l.length c, .slice A l.length c2] w (RetB w0 L true) := by
  have hcap := (hs.out ho).own_cap
  have r0 : Rd w0 L (some ⟨g, 0, none⟩) l.length 1 (B8 l) := by
    have := Rd.out ho (Rd.own_take (w0 := w0) (L := M) (E := 5) (sz := 1) (A := some ⟨g, 0, none⟩) (c := c) (n := l.length + 2) (xs := B8 (l ++ [201, 202])) l.length (by omega))
    rw [Nat.mul_one, B8_app, List.take_left' (B8_length l)] at this
    exact this
  have r1 : Rd w0 L (some ⟨g, 0, none⟩) (l.length + 2) 1 (B8 (l ++ [201, 202])) := Rd.out ho Rd.own
  have hv1 := fun (w' : World) (h : Sat w0 w' L) => conv_b2s (P := Try.prog) (S := 33) (D := 9) (c := c) r0 h
  have hv2 := fun (w' : World) (h : Sat w0 w' L) => conv_b2s (P := Try.prog) (S := 33) (D := 9) (c := c2) hR h
  have hc1 : ∀ w' : World, Sat w0 w' L → w'.cell? ⟨g, l.length, none⟩ = some (.int .u8 201) := fun w' h => by
    have := r1.elt (k := l.length) (u := .int .u8 201) (by simp [B8, b8]) w' h
    simpa using this
  have hc2 : ∀ w' : World, Sat w0 w' L → w'.cell? ⟨g, l.length + 1, none⟩ = some (.int .u8 202) := fun w' h => by
    have := r1.elt (k := l.length + 1) (u := .int .u8 202) (by simp [B8, b8]) w' h
    simpa using this
  clear r0 r1 ho hR
  go_enter Try.func24, Try.ntmps24
  go_wp2
  have i0 : (0 : Int) ≤ (l.length : Int) := by omega
  have i1 : (l.length : Int) ≤ (c : Int) := by omega
  have i2 : (l.length : Int) < (l.length : Int) + 2 := by omega
  have i3 : (0 : Int) ≤ (l.length : Int) + 1 := by omega
  have i4 : (l.length : Int) + 1 < (l.length : Int) + 2 := by omega
  have i5 : ((l.length : Int) + 1).toNat = l.length + 1 := by omega
  have i6 : IntKind.i64.wrap ((l.length : Int) + 1) = (l.length : Int) + 1 := IntWalk.i64_in _ (by omega)
  clear hl hcap
  go_region_held3 (fun w' => Sat w0 w' L) (first | assumption | (apply Sat.drew; assumption)) (fail)
  all_goals go_wp2
  all_goals go_ret
  all_goals exact ⟨rfl, by assumption⟩

def I8 (l : List Int) : List Value := l.map (Value.int .i64)
theorem I8_length (l : List Int) : (I8 l).length = l.length := by simp [I8]
theorem I8_at (l : List Int) (k : Nat) (n : Int) (h : l[k]? = some n) : (I8 l)[k]? = some (.int .i64 n) := by simp [I8, h]

def rise (last : Int) : List Int → Bool
  | [] => true
  | n :: r => decide (last < n ∧ n < 16) && rise n r

def srvBytes (l : List Int) : List UInt8 := num l.length ++ (l.map fun n => num n.toNat).flatten
def okServers (l : List Int) : Bool := decide (1 ≤ l.length ∧ l.length ≤ 7) && rise (-1) l
def putServers (l : List Int) : List UInt8 × Int := if okServers l then (srvBytes l, 0) else ([], 1)

def PsInv (l : List Int) (k : Nat) (last : Int) (acc : List UInt8) : Prop :=
  rise (-1) l = rise last (l.drop k) ∧ acc = num l.length ++ ((l.take k).map fun n => num n.toNat).flatten

theorem PsInv.start (l : List Int) : PsInv l 0 (-1) (num l.length) := ⟨rfl, by simp⟩
theorem drop_at {α : Type} (l : List α) (k : Nat) (n : α) (h : l[k]? = some n) : l.drop k = n :: l.drop (k + 1) := by
  obtain ⟨h1, h2⟩ := List.getElem?_eq_some_iff.1 h
  rw [List.drop_eq_getElem_cons h1, h2]

theorem PsInv.step {l : List Int} {k : Nat} {last n : Int} {acc : List UInt8} (h : l[k]? = some n) (h1 : last < n) (h2 : n < 16) (hi : PsInv l k last acc) : PsInv l (k + 1) n (acc ++ num n.toNat) := by
  refine ⟨?_, ?_⟩
  · rw [hi.1, drop_at l k n h]; simp [rise, h1, h2]
  · rw [hi.2, List.take_add_one, h]; simp

theorem PsInv.done {l : List Int} {k : Nat} {last : Int} {acc : List UInt8} (h : l.length ≤ k) (h1 : 1 ≤ l.length) (h2 : l.length ≤ 7) (hi : PsInv l k last acc) : putServers l = (acc, 0) := by
  have e : okServers l = true := by unfold okServers; rw [hi.1, List.drop_of_length_le h]; simp [rise, h1, h2]
  have e2 : acc = srvBytes l := by rw [hi.2, List.take_of_length_le h]; rfl
  simp [putServers, e, e2]

end Go.Proofs.Ytdlimjcidblneaa

/-
  The law's 'knows', and the walk of WirePuts.
-/
namespace Go.Proofs.Ytdlimjcidblneaa
open Go Go.RowKit Sl

theorem RdBB.cons {w0 : World} {p : HP} {L : List HP} {A : Option Addr} {n : Nat} {ls : List (List UInt8)} (h : RdBB w0 L A n ls) : RdBB w0 (p :: L) A n ls := by
  obtain ⟨vs, h1, h2, h3, h4⟩ := h
  exact ⟨vs, h1.cons, h2, h3, fun i l hl => let ⟨B, c, h5, h6⟩ := h4 i l hl; ⟨B, c, h5, h6.cons⟩⟩

theorem Hid.mk' {p : Prop} (h : p) : Hid p := h
/-- The first bytes of what was lent. -/
theorem Rd.lent {w0 : World} {L : List HP} {g c : Nat} (l : List UInt8) : Rd w0 (own 5 1 (some ⟨g, 0, none⟩) c (l.length + 2) (B8 (l ++ [201, 202])) :: L) (some ⟨g, 0, none⟩) l.length 1 (B8 l) := by
  have := Rd.own_take (w0 := w0) (L := L) (E := 5) (sz := 1) (A := some ⟨g, 0, none⟩) (c := c) (n := l.length + 2) (xs := B8 (l ++ [201, 202])) l.length (by omega)
  rw [Nat.mul_one] at this
  rwa [show (B8 (l ++ [201, 202])).take l.length = B8 l from by rw [B8_app, List.take_left' (B8_length l)]] at this

end Go.Proofs.Ytdlimjcidblneaa
