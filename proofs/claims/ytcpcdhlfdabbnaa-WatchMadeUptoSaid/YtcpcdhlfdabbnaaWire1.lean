/-
  wire.number and its plain law.
-/
import Derived.Test.YtcpcdhlfdabbnaaTy
import Derived.Test.YtcpcdhlfdabbnaaRows
import Derived.Test.YtcpcdhlfdabbnaaSlOps2
import Derived.WalkSpells
import Derived.WalkLawsBesides
namespace Go.Proofs.Ytcpcdhlfdabbnaa
open Go Go.RowKit Sl

def le (n : Nat) : List UInt8 := if h : n = 0 then [] else UInt8.ofNat n :: le (n / 256)
termination_by n
theorem le_zero : le 0 = [] := by rw [le]; rfl
theorem le_pos (n : Nat) (h : n ≠ 0) : le n = UInt8.ofNat n :: le (n / 256) := by rw [le, dif_neg h]
def num (n : Nat) : List UInt8 := UInt8.ofNat (le n).length :: le n
theorem le_len (n : Nat) : ∀ k, n < 256 ^ k → (le n).length ≤ k := by
  induction n using Nat.strongRecOn with
  | _ n ih =>
    intro k hk
    by_cases h : n = 0
    · subst h; simp [le_zero]
    · rw [le_pos n h]
      cases k with
      | zero => simp at hk; omega
      | succ k =>
        have := ih (n / 256) (by omega) k (by rw [Nat.pow_succ] at hk; omega)
        simp; omega

/-- It has returned the bytes l in memory of its own. -/
def RetS (w0 : World) (L : List HP) (l : List UInt8) (e : Ending) (w' : World) : Prop := ∃ A c, e = .returned (.slice A l.length c) ∧ Sat w0 w' (own 5 1 A c l.length (B8 l) :: L)

set_option pp.maxSteps 600

theorem RetS.mk {w0 w : World} {L L' : List HP} {l : List UInt8} {A : Option Addr} {c n : Nat} {xs : List Value} (hs : Sat w0 w L') (hp : Pick L' (own 5 1 A c n xs :: L)) (hx : xs = B8 l) (hn : n = l.length) :
    RetS w0 L l (.returned (.slice A n c)) w := by
  subst hx hn; exact ⟨A, c, rfl, hs.pick hp⟩

/-- It has returned the bytes l in memory of its own, and the number r. -/
def RetT (w0 : World) (L : List HP) (x : List UInt8 × Int) (e : Ending) (w' : World) : Prop := ∃ A c, e = .returned (.tuple #[.slice A x.1.length c, .int .i64 x.2]) ∧ Sat w0 w' (own 5 1 A c x.1.length (B8 x.1) :: L)
theorem RetT.mk {w0 w : World} {L L' : List HP} {x : List UInt8 × Int} {A : Option Addr} {c n : Nat} {r : Int} {xs : List Value} (hs : Sat w0 w L') (hp : Pick L' (own 5 1 A c n xs :: L)) (hx : xs = B8 x.1) (hn : n = x.1.length) (hr : r = x.2) :
    RetT w0 L x (.returned (.tuple #[.slice A n c, .int .i64 r])) w := by
  subst hx hn hr; exact ⟨A, c, rfl, hs.pick hp⟩

set_option maxHeartbeats 400000 in
theorem number_nat {w0 w : World} {L : List HP} (n : Nat) (hn : n < 256 ^ 7) (hs : Sat w0 w L) :
    Calls Try.prog 86 #[.int .i64 n] w (RetS w0 L (num n)) := by
  go_enter Try.func86, Try.ntmps86
  go_wp2_with ((with_reducible apply wl_buildSlice); assumption; rfl; (go_simp; rfl); (simp [Value.cells]); omega; intro b w1 hs1)
  go_loopw [0, 3] (fun x v wr => ∃ (m : Nat) (pre : List UInt8) (A : Option Addr) (c : Nat), x = .int .i64 m ∧ m < 256 ^ 7 ∧ le n = pre ++ le m ∧ v = .slice A (pre.length + 1) c ∧ Sat w0 wr (own 5 1 A c (pre.length + 1) (B8 (0 :: pre)) :: L)) (fun x _ _ => (intOf x).toNat)
  case atStart => exact ⟨n, [], _, _, rfl, hn, rfl, rfl, hs1⟩
  case round =>
    obtain ⟨m, pre, A, c, rfl, hm, hle, rfl, hs2⟩ := hrel
    clear hs hs1
    have hlen := le_len n 7 hn
    have hpl : pre.length ≤ 7 := by have := congrArg List.length hle; simp at this; omega
    clear hlen
    have Hle : Hid (le n = pre ++ le m) := hle; clear hle
    by_cases h0 : 0 < m
    · go_wp2_with (first | ((with_reducible apply wl_buildSlice); assumption; rfl; (go_simp; rfl); (simp [Value.cells]); omega; intro b w1 hs1) | ((with_reducible apply wl_append); go_must (assumption; rfl; rfl; (repeat (first | exact Out.here _ | apply Out.there)); (repeat (first | assumption | exact Rd.own | exact Rd.nil | apply Rd.cons)); (first | exact B8_one _ | exact I8_one _ | (simp [Value.oneCell'])); (first | omega | (simp only [maxLen]; omega)); omega; intro A1 c1 w1 hs1 hc1; (try ((refine hs1.own_elim ?_ ?_); omega; rintro g1 rfl)); try simp only [Nat.zero_add, List.nil_append] at hs1 hc1)))
      go_roundw
      case rel =>
        refine ⟨m / 256, pre ++ [UInt8.ofNat m], some ⟨g1, 0, none⟩, c1, by go_num, by omega, by rw [Hle.out, le_pos m (by omega)]; simp, by simp, hs1.pick ?_⟩
        rw [show B8 (0 :: (pre ++ [UInt8.ofNat m])) = B8 (0 :: pre) ++ [.int .u8 ((m : Int) % 256)] from by simp [B8, b8_ofNat], show (pre ++ [UInt8.ofNat m]).length + 1 = pre.length + 1 + 1 from by simp]
        (repeat (first | exact Pick.nil _ | exact Pick.tail _ | exact Out.here _ | apply Out.there | apply Pick.cons | apply Pick.drop))
      case measure => simp [intOf]; omega
    · obtain rfl : m = 0 := by omega
      obtain ⟨g, rfl⟩ := hs2.own_some (by omega)
      go_wp2_with (first | ((with_reducible apply wl_store_own); assumption; rfl; (go_simp; rfl); (repeat (first | exact Out.here _ | apply Out.there)); rfl; rfl; omega; intro w1 hs1))
      go_ret
      have e : le n = pre := by rw [Hle.out, le_zero, List.append_nil]
      exact RetS.mk hs1 (by (repeat (first | exact Pick.nil _ | exact Pick.tail _ | exact Out.here _ | apply Out.there | apply Pick.cons | apply Pick.drop))) (by simp [num, e, B8, b8]; omega) (by simp [num, e])

theorem number_spec {w0 w : World} {L : List HP} (n : Int) (h0 : 0 ≤ n) (hn : n < 256 ^ 7) (hs : Sat w0 w L) :
    Calls Try.prog 86 #[.int .i64 n] w (RetS w0 L (num n.toNat)) := by
  obtain ⟨n, rfl⟩ := Int.eq_ofNat_of_zero_le h0
  exact number_nat n (by omega) hs

end Go.Proofs.Ytcpcdhlfdabbnaa
