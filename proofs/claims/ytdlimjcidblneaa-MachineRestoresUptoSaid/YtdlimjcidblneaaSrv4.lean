/-
  WireBack: the plain law.
-/
import Derived.Test.YtdlimjcidblneaaWire9
import Derived.Test.YtdlimjcidblneaaWk
namespace Go.Proofs.Ytdlimjcidblneaa
open Go Go.RowKit Sl Go.Shelf

theorem val_le (n : Nat) : val (le n) = n := by
  induction n using Nat.strongRecOn with
  | _ n ih =>
    by_cases h : n = 0
    · subst h; rw [le_zero]; rfl
    · rw [le_pos n h]
      simp only [val]
      rw [ih (n / 256) (by omega)]
      have : (UInt8.ofNat n).toNat = n % 256 := by simp
      omega

theorem le_last (n : Nat) : ∀ (_ : n ≠ 0), (le n)[(le n).length - 1]? ≠ some 0 := by
  induction n using Nat.strongRecOn with
  | _ n ih =>
    intro h
    rw [le_pos n h]
    by_cases h2 : n / 256 = 0
    · rw [h2, le_zero]
      simp
      intro h3
      have : (UInt8.ofNat n).toNat = 0 := by rw [h3]; rfl
      simp at this
      omega
    · have := ih (n / 256) (by omega) h2
      have hl : (le (n / 256)).length ≠ 0 := by
        intro h0
        rw [le_pos _ h2] at h0
        simp at h0
      obtain ⟨k, hk⟩ : ∃ k, (le (n / 256)).length = k + 1 := ⟨(le (n / 256)).length - 1, by omega⟩
      rw [hk] at this
      simp only [List.length_cons, hk, Nat.add_sub_cancel, List.getElem?_cons_succ] at this ⊢
      exact this

/-- A number that was put is read back, whatever follows. -/
theorem rdNumber_num (n : Nat) (hn : n < 281474976710656) (rest : List UInt8) : rdNumber 0 (num n ++ rest) = ((n : Int), 0, rest) := by
  have hl : (le n).length ≤ 6 := le_len n 6 hn
  have hb : (UInt8.ofNat (le n).length).toNat = (le n).length := by
    simp; omega
  have e : num n ++ rest = UInt8.ofNat (le n).length :: (le n ++ rest) := rfl
  rw [e]
  unfold rdNumber
  simp only [ne_eq, not_true, if_false, hb]
  rw [if_neg (by omega), if_neg (by simp), if_neg, List.take_left, List.drop_left, val_le]
  rintro ⟨h1, h2⟩
  have h0 : n ≠ 0 := by rintro rfl; rw [le_zero] at h1; simp at h1
  rw [List.getElem?_append_left (by omega)] at h2
  exact le_last n h0 h2

theorem rdBytes_text (t : List UInt8) (ht : t.length ≤ 1048576) (rest : List UInt8) : rdBytes 0 (num t.length ++ t ++ rest) = (t, 0, rest) := by
  unfold rdBytes
  rw [List.append_assoc, rdNumber_num _ (by omega)]
  simp only [ne_eq, not_true, if_false]
  rw [if_neg (by omega), if_neg (by simp; omega), Int.toNat_natCast, List.take_left, List.drop_left]

/-- What is put behind: a number, or bytes (then the number is -1). -/
abbrev Item := Int × List UInt8

def encItem (x : Item) : List UInt8 := if x.1 < 0 then num x.2.length ++ x.2 else num x.1.toNat
def numItem (n : Int) : List Item := if n < 0 ∨ 281474976710656 ≤ n then [] else [(n, [])]
def bytesItem (t : List UInt8) : List Item := if 1048576 < t.length then [] else [(-1, t)]
def okItem (x : Item) : Prop := (x.1 < 0 → x.2.length ≤ 1048576 ∧ x.1 = -1) ∧ (0 ≤ x.1 → x.1 < 281474976710656 ∧ x.2 = [])

def enc (xs : List Item) : List UInt8 := (xs.map encItem).flatten
theorem enc_app (xs ys : List Item) : enc (xs ++ ys) = enc xs ++ enc ys := by simp [enc]

end Go.Proofs.Ytdlimjcidblneaa

/-
  Lists of servers: the plain law.
-/
namespace Go.Proofs.Ytdlimjcidblneaa
open Go Go.RowKit Sl Go.Shelf

theorem le_val (t : List UInt8) : (∀ k, k + 1 = t.length → t[k]? ≠ some 0) → le (val t) = t := by
  induction t with
  | nil => intro _; exact le_zero
  | cons c t ih =>
    intro h
    have hc := c.toNat_lt
    have h2 : ∀ k, k + 1 = t.length → t[k]? ≠ some 0 := fun k hk => by
      have := h (k + 1) (by simp; omega)
      simpa using this
    have hi := ih h2
    have hv : val (c :: t) = c.toNat + 256 * val t := rfl
    have hne : val (c :: t) ≠ 0 := by
      intro h0
      have h1 : c.toNat = 0 := by omega
      have h3 : val t = 0 := by omega
      rw [h3, le_zero] at hi
      subst hi
      have := h 0 rfl
      apply this
      have : c = 0 := UInt8.toNat_inj.1 (by simpa using h1)
      simp [this]
    rw [le_pos _ hne, hv, show (c.toNat + 256 * val t) / 256 = val t from by omega, hi]
    congr 1
    apply UInt8.toNat_inj.1
    simp

/-- Where a number was read without a fault, it stood there as Number puts it. -/
theorem rdNumber_inv {e : Int} {l r : List UInt8} {v : Int} (h : rdNumber e l = (v, 0, r)) : e = 0 ∧ 0 ≤ v ∧ v < 281474976710656 ∧ l = num v.toNat ++ r := by
  obtain ⟨h0, _, _, h48⟩ := rdNumber_ok h
  unfold rdNumber at h
  split at h
  · rename_i he
    simp only [Prod.mk.injEq] at h
    exact absurd h.2.1 he
  · rename_i he
    refine ⟨by simpa using he, h0, h48, ?_⟩
    cases l with
    | nil => simp at h
    | cons c r' =>
      simp only at h
      split at h
      · simp at h
      · split at h
        · simp at h
        · split at h
          · simp at h
          · rename_i h6 h7 h8
            simp only [Prod.mk.injEq, true_and] at h
            obtain ⟨rfl, rfl⟩ := h
            have hlen : (r'.take c.toNat).length = c.toNat := by simp; omega
            have hle : le (val (r'.take c.toNat)) = r'.take c.toNat := le_val _ (fun k hk => by
              rw [hlen] at hk
              rw [List.getElem?_take, if_pos (by omega)]
              intro h9
              apply h8
              refine ⟨by omega, ?_⟩
              rw [← hk, Nat.add_sub_cancel, h9])
            rw [Int.toNat_natCast]
            unfold num
            rw [hle, hlen]
            have : UInt8.ofNat c.toNat = c := by simp
            rw [this]
            simp

end Go.Proofs.Ytdlimjcidblneaa

/-
  Lists of servers: the walks.
-/
namespace Go.Proofs.Ytdlimjcidblneaa
open Go Go.RowKit Sl Go.Shelf

set_option maxHeartbeats 1000000 in
theorem ints_spec {w0 w : World} {L : List HP} {A B : Option Addr} {n m c d : Nat} (xs ys : List Int) (hx : Hid (n = xs.length)) (hy : Hid (m = ys.length)) (hn : n ≤ 4294967296) (hm : m ≤ 4294967296) (hs : Sat w0 w L) (hA : Rd w0 L A n 1 (I8 xs)) (hB : Rd w0 L B m 1 (I8 ys)) :
    Calls Try.prog 29 #[.slice A n c, .slice B m d] w (RetB w0 L (decide (xs = ys))) := by
  by_cases hl : n = m
  · subst hl
    go_enter Try.func29, Try.ntmps29
    go_wp2_with fail
    go_loopw [5] (fun i wr => ∃ k : Nat, i = .int .i64 k ∧ k ≤ n ∧ xs.take k = ys.take k ∧ Sat w0 wr L) (fun i _ => n - (intOf i).toNat)
    case atStart => exact ⟨0, rfl, Nat.zero_le _, rfl, hs⟩
    case round =>
      obtain ⟨k, rfl, hk, he, hs2⟩ := hrel
      have He := Hid.mk' he
      clear hs he
      by_cases hkn : k < n
      · obtain ⟨x, hx1⟩ : ∃ x, xs[k]? = some x := ⟨xs[k]'(by have := hx.out; omega), List.getElem?_eq_getElem _⟩
        obtain ⟨y, hy1⟩ : ∃ y, ys[k]? = some y := ⟨ys[k]'(by have := hy.out; omega), List.getElem?_eq_getElem _⟩
        obtain ⟨ga, oa, rfl⟩ := hA.some_of hs2 (by omega)
        obtain ⟨gb, ob, rfl⟩ := hB.some_of hs2 (by omega)
        have ca := hA.elt (I8_at xs k x hx1)
        have cb := hB.elt (I8_at ys k y hy1)
        have i0 : (0 : Int) ≤ (k : Int) := by omega
        have i1 : (k : Int) < (n : Int) := by omega
        have Hx1 := Hid.mk' hx1
        have Hy1 := Hid.mk' hy1
        clear hx1 hy1
        by_cases hxy : x = y
        · subst hxy
          go_wp2_with fail
          refine rg_start rfl hs2 (fun wr0 hsr0 => ?_)
          refine rg_take (i := 0) (v := ?_) rfl (by kernel_rfl) (by kernel_rfl) (by kernel_rfl) (fun _ _ _ h => h) (by with_unfolding_all rfl) (by assumption) ?_ ?_
          rotate_left
          · intro w hSw; (first | (go_simp; done) | (go_simp; with_reducible rfl) | (go_simp; rfl))
          (try simp only [Act.put, List.setIfInBounds_toArray, List.set_cons_zero, List.set_cons_succ])
          refine rg_take (i := 1) (v := ?_) rfl (by kernel_rfl) (by kernel_rfl) (by kernel_rfl) (fun _ _ _ h => h) (by with_unfolding_all rfl) (by assumption) ?_ ?_
          rotate_left
          · intro w hSw; (first | (go_simp; done) | (go_simp; with_reducible rfl) | (go_simp; rfl))
          (try simp only [Act.put, List.setIfInBounds_toArray, List.set_cons_zero, List.set_cons_succ])
          refine rg_take (i := 2) (v := ?_) rfl (by kernel_rfl) (by kernel_rfl) (by kernel_rfl) (fun _ _ _ h => h) (by with_unfolding_all rfl) (by assumption) ?_ ?_
          rotate_left
          · intro w hSw; (first | (go_simp; done) | (go_simp; with_reducible rfl) | (go_simp; rfl))
          (try simp only [Act.put, List.setIfInBounds_toArray, List.set_cons_zero, List.set_cons_succ])
          refine rg_take (i := 3) (v := ?_) rfl (by kernel_rfl) (by kernel_rfl) (by kernel_rfl) (fun _ _ _ h => h) (by with_unfolding_all rfl) (by assumption) ?_ ?_
          rotate_left
          · intro w hSw; ((with_reducible apply yl_load); assumption; rfl; (repeat (first | assumption | ((with_reducible apply Cl.blkL); exact rfl) | with_reducible apply Cl.cons)); rfl)
          (try simp only [Act.put, List.setIfInBounds_toArray, List.set_cons_zero, List.set_cons_succ])
          refine rg_take (i := 4) (v := ?_) rfl (by kernel_rfl) (by kernel_rfl) (by kernel_rfl) (fun _ _ _ h => h) (by with_unfolding_all rfl) (by assumption) ?_ ?_
          rotate_left
          · intro w hSw; (first | (go_simp; done) | (go_simp; with_reducible rfl) | (go_simp; rfl))
          (try simp only [Act.put, List.setIfInBounds_toArray, List.set_cons_zero, List.set_cons_succ])
          refine rg_take (i := 5) (v := ?_) rfl (by kernel_rfl) (by kernel_rfl) (by kernel_rfl) (fun _ _ _ h => h) (by with_unfolding_all rfl) (by assumption) ?_ ?_
          rotate_left
          · intro w hSw; (first | (go_simp; done) | (go_simp; with_reducible rfl) | (go_simp; rfl))
          (try simp only [Act.put, List.setIfInBounds_toArray, List.set_cons_zero, List.set_cons_succ])
          refine rg_take (i := 6) (v := ?_) rfl (by kernel_rfl) (by kernel_rfl) (by kernel_rfl) (fun _ _ _ h => h) (by with_unfolding_all rfl) (by assumption) ?_ ?_
          rotate_left
          · intro w hSw; (first | (go_simp; done) | (go_simp; with_reducible rfl) | (go_simp; rfl))
          (try simp only [Act.put, List.setIfInBounds_toArray, List.set_cons_zero, List.set_cons_succ])
          refine rg_take (i := 7) (v := ?_) rfl (by kernel_rfl) (by kernel_rfl) (by kernel_rfl) (fun _ _ _ h => h) (by with_unfolding_all rfl) (by assumption) ?_ ?_
          rotate_left
          · intro w hSw; ((with_reducible apply yl_load); assumption; rfl; (repeat (first | assumption | ((with_reducible apply Cl.blkL); exact rfl) | with_reducible apply Cl.cons)); rfl)
          (try simp only [Act.put, List.setIfInBounds_toArray, List.set_cons_zero, List.set_cons_succ])
          refine rg_take (i := 8) (v := ?_) rfl (by kernel_rfl) (by kernel_rfl) (by kernel_rfl) (fun _ _ _ h => h) (by with_unfolding_all rfl) (by assumption) ?_ ?_
          rotate_left
          · intro w hSw; (first | (go_simp; done) | (go_simp; with_reducible rfl) | (go_simp; rfl))
          (try simp only [Act.put, List.setIfInBounds_toArray, List.set_cons_zero, List.set_cons_succ])
          refine rg_done (by kernel_rfl) ?_
          go_wp2_with fail
          go_roundw
          case rel => exact ⟨k + 1, by go_num, by omega, by rw [List.take_add_one, List.take_add_one, He.out, Hx1.out, Hy1.out], by first | assumption | (apply Sat.drew; assumption)⟩
          case measure => simp [intOf]; omega
        · have h0 : (x != y) = true := by simp [hxy]
          go_wp2_with fail
          refine rg_start rfl hs2 (fun wr0 hsr0 => ?_)
          refine rg_take (i := 0) (v := ?_) rfl (by kernel_rfl) (by kernel_rfl) (by kernel_rfl) (fun _ _ _ h => h) (by with_unfolding_all rfl) (by assumption) ?_ ?_
          rotate_left
          · intro w hSw; (first | (go_simp; done) | (go_simp; with_reducible rfl) | (go_simp; rfl))
          (try simp only [Act.put, List.setIfInBounds_toArray, List.set_cons_zero, List.set_cons_succ])
          refine rg_take (i := 1) (v := ?_) rfl (by kernel_rfl) (by kernel_rfl) (by kernel_rfl) (fun _ _ _ h => h) (by with_unfolding_all rfl) (by assumption) ?_ ?_
          rotate_left
          · intro w hSw; (first | (go_simp; done) | (go_simp; with_reducible rfl) | (go_simp; rfl))
          (try simp only [Act.put, List.setIfInBounds_toArray, List.set_cons_zero, List.set_cons_succ])
          refine rg_take (i := 2) (v := ?_) rfl (by kernel_rfl) (by kernel_rfl) (by kernel_rfl) (fun _ _ _ h => h) (by with_unfolding_all rfl) (by assumption) ?_ ?_
          rotate_left
          · intro w hSw; (first | (go_simp; done) | (go_simp; with_reducible rfl) | (go_simp; rfl))
          (try simp only [Act.put, List.setIfInBounds_toArray, List.set_cons_zero, List.set_cons_succ])
          refine rg_take (i := 3) (v := ?_) rfl (by kernel_rfl) (by kernel_rfl) (by kernel_rfl) (fun _ _ _ h => h) (by with_unfolding_all rfl) (by assumption) ?_ ?_
          rotate_left
          · intro w hSw; ((with_reducible apply yl_load); assumption; rfl; (repeat (first | assumption | ((with_reducible apply Cl.blkL); exact rfl) | with_reducible apply Cl.cons)); rfl)
          (try simp only [Act.put, List.setIfInBounds_toArray, List.set_cons_zero, List.set_cons_succ])
          refine rg_take (i := 4) (v := ?_) rfl (by kernel_rfl) (by kernel_rfl) (by kernel_rfl) (fun _ _ _ h => h) (by with_unfolding_all rfl) (by assumption) ?_ ?_
          rotate_left
          · intro w hSw; (first | (go_simp; done) | (go_simp; with_reducible rfl) | (go_simp; rfl))
          (try simp only [Act.put, List.setIfInBounds_toArray, List.set_cons_zero, List.set_cons_succ])
          refine rg_take (i := 5) (v := ?_) rfl (by kernel_rfl) (by kernel_rfl) (by kernel_rfl) (fun _ _ _ h => h) (by with_unfolding_all rfl) (by assumption) ?_ ?_
          rotate_left
          · intro w hSw; (first | (go_simp; done) | (go_simp; with_reducible rfl) | (go_simp; rfl))
          (try simp only [Act.put, List.setIfInBounds_toArray, List.set_cons_zero, List.set_cons_succ])
          refine rg_take (i := 6) (v := ?_) rfl (by kernel_rfl) (by kernel_rfl) (by kernel_rfl) (fun _ _ _ h => h) (by with_unfolding_all rfl) (by assumption) ?_ ?_
          rotate_left
          · intro w hSw; (first | (go_simp; done) | (go_simp; with_reducible rfl) | (go_simp; rfl))
          (try simp only [Act.put, List.setIfInBounds_toArray, List.set_cons_zero, List.set_cons_succ])
          refine rg_take (i := 7) (v := ?_) rfl (by kernel_rfl) (by kernel_rfl) (by kernel_rfl) (fun _ _ _ h => h) (by with_unfolding_all rfl) (by assumption) ?_ ?_
          rotate_left
          · intro w hSw; ((with_reducible apply yl_load); assumption; rfl; (repeat (first | assumption | ((with_reducible apply Cl.blkL); exact rfl) | with_reducible apply Cl.cons)); rfl)
          (try simp only [Act.put, List.setIfInBounds_toArray, List.set_cons_zero, List.set_cons_succ])
          refine rg_take (i := 8) (v := ?_) rfl (by kernel_rfl) (by kernel_rfl) (by kernel_rfl) (fun _ _ _ h => h) (by with_unfolding_all rfl) (by assumption) ?_ ?_
          rotate_left
          · intro w hSw; (first | (go_simp; done) | (go_simp; with_reducible rfl) | (go_simp; rfl))
          (try simp only [Act.put, List.setIfInBounds_toArray, List.set_cons_zero, List.set_cons_succ])
          refine rg_done (by kernel_rfl) ?_
          go_wp2_with fail
          go_ret
          have hne : xs ≠ ys := fun e => hxy (by have h1 := Hx1.out; rw [e, Hy1.out] at h1; exact (Option.some.inj h1).symm)
          exact ⟨by simp [hne], by first | assumption | (apply Sat.drew; assumption)⟩
      · obtain rfl : k = n := by omega
        have he2 : xs = ys := by
          have := He.out
          rwa [List.take_of_length_le (by have := hx.out; omega), List.take_of_length_le (by have := hy.out; omega)] at this
        have Hd : Hid (decide (xs = ys) = true) := by unfold Hid; simp [he2]
        clear he2
        go_wp2_with fail
        go_ret
        exact ⟨by rw [Hd.out]; rfl, hs2⟩
  · have h0 : ((n : Int) != (m : Int)) = true := by simp; omega
    have hne : xs ≠ ys := by rintro rfl; have := hx.out; have := hy.out; omega
    have hd : decide (xs = ys) = false := by simp [hne]
    rw [hd]
    clear hne hd
    go_enter Try.func29, Try.ntmps29
    go_wp2_with fail
    go_ret
    exact ⟨rfl, hs⟩

end Go.Proofs.Ytdlimjcidblneaa

/-
  Lists of servers: ServersBytes, PutServers of the document, GetServers.
-/
namespace Go.Proofs.Ytdlimjcidblneaa
open Go Go.RowKit Sl Go.Shelf

end Go.Proofs.Ytdlimjcidblneaa

/-
  GetServers of the document. (This template was written by srv4gen.py.)
-/
namespace Go.Proofs.Ytdlimjcidblneaa
open Go Go.RowKit Sl Go.Shelf

end Go.Proofs.Ytdlimjcidblneaa
