/-
  WireBack: the plain law.
-/
import Derived.Test.YtdlimjcidblneaaWire9
import Derived.Test.YtdlimjcidblneaaWk
namespace Go.Proofs.Ytdlimjcidblneaa
open Go Go.RowKit Sl Go.Shelf

theorem val_le (n : Nat) : val (le n) = n := by
  induction n using Nat.strongRecOn with
  | _ n ih =>
    by_cases h : n = 0
    · subst h; rw [le_zero]; rfl
    · rw [le_pos n h]
      simp only [val]
      rw [ih (n / 256) (by omega)]
      have : (UInt8.ofNat n).toNat = n % 256 := by simp
      omega

theorem le_last (n : Nat) : ∀ (_ : n ≠ 0), (le n)[(le n).length - 1]? ≠ some 0 := by
  induction n using Nat.strongRecOn with
  | _ n ih =>
    intro h
    rw [le_pos n h]
    by_cases h2 : n / 256 = 0
    · rw [h2, le_zero]
      simp
      intro h3
      have : (UInt8.ofNat n).toNat = 0 := by rw [h3]; rfl
      simp at this
      omega
    · have := ih (n / 256) (by omega) h2
      have hl : (le (n / 256)).length ≠ 0 := by
        intro h0
        rw [le_pos _ h2] at h0
        simp at h0
      obtain ⟨k, hk⟩ : ∃ k, (le (n / 256)).length = k + 1 := ⟨(le (n / 256)).length - 1, by omega⟩
      rw [hk] at this
      simp only [List.length_cons, hk, Nat.add_sub_cancel, List.getElem?_cons_succ] at this ⊢
      exact this

theorem le_len0 (n : Nat) (h : n ≠ 0) : 0 < (le n).length := by rw [le_pos n h]; simp

/-- A number that was put is read back, whatever follows. -/
theorem rdNumber_num (n : Nat) (hn : n < 281474976710656) (rest : List UInt8) : rdNumber 0 (num n ++ rest) = ((n : Int), 0, rest) := by
  have hl : (le n).length ≤ 6 := le_len n 6 hn
  have hb : (UInt8.ofNat (le n).length).toNat = (le n).length := by
    simp; omega
  have e : num n ++ rest = UInt8.ofNat (le n).length :: (le n ++ rest) := rfl
  rw [e]
  unfold rdNumber
  simp only [ne_eq, not_true, if_false, hb]
  rw [if_neg (by omega), if_neg (by simp), if_neg, List.take_left, List.drop_left, val_le]
  rintro ⟨h1, h2⟩
  have h0 : n ≠ 0 := by rintro rfl; rw [le_zero] at h1; simp at h1
  rw [List.getElem?_append_left (by omega)] at h2
  exact le_last n h0 h2

theorem rdBytes_text (t : List UInt8) (ht : t.length ≤ 1048576) (rest : List UInt8) : rdBytes 0 (num t.length ++ t ++ rest) = (t, 0, rest) := by
  unfold rdBytes
  rw [List.append_assoc, rdNumber_num _ (by omega)]
  simp only [ne_eq, not_true, if_false]
  rw [if_neg (by omega), if_neg (by simp; omega), Int.toNat_natCast, List.take_left, List.drop_left]

/-- What is put behind: a number, or bytes (then the number is -1). -/
abbrev Item := Int × List UInt8

def encItem (x : Item) : List UInt8 := if x.1 < 0 then num x.2.length ++ x.2 else num x.1.toNat
def numItem (n : Int) : List Item := if n < 0 ∨ 281474976710656 ≤ n then [] else [(n, [])]
def bytesItem (t : List UInt8) : List Item := if 1048576 < t.length then [] else [(-1, t)]
def okItem (x : Item) : Prop := (x.1 < 0 → x.2.length ≤ 1048576 ∧ x.1 = -1) ∧ (0 ≤ x.1 → x.1 < 281474976710656 ∧ x.2 = [])

/-- The items of the first k rounds. -/
def items (l : List Int) (m : List (List UInt8)) : Nat → List Item
  | 0 => []
  | k + 1 => items l m k ++ (l[k]?.map numItem).getD [] ++ (m[k]?.map bytesItem).getD []

def enc (xs : List Item) : List UInt8 := (xs.map encItem).flatten
theorem enc_app (xs ys : List Item) : enc (xs ++ ys) = enc xs ++ enc ys := by simp [enc]

theorem items_ok (l : List Int) (m : List (List UInt8)) (k : Nat) : ∀ x ∈ items l m k, okItem x := by
  induction k with
  | zero => simp [items]
  | succ k ih =>
    intro x hx
    simp only [items, List.mem_append] at hx
    rcases hx with (hx | hx) | hx
    · exact ih x hx
    · cases hq : l[k]? with
      | none => rw [hq] at hx; simp at hx
      | some n =>
        rw [hq] at hx
        simp only [Option.map_some, Option.getD_some, numItem] at hx
        split at hx
        · simp at hx
        · simp at hx; subst hx; constructor <;> simp <;> omega
    · cases hq : m[k]? with
      | none => rw [hq] at hx; simp at hx
      | some t =>
        rw [hq] at hx
        simp only [Option.map_some, Option.getD_some, bytesItem] at hx
        split at hx
        · simp at hx
        · simp at hx; subst hx; constructor <;> simp; omega

theorem enc_drop (xs : List Item) (k : Nat) (x : Item) (h : xs[k]? = some x) : enc (xs.drop k) = encItem x ++ enc (xs.drop (k + 1)) := by
  rw [drop_at xs k x h]; simp [enc]

theorem items_len (l : List Int) (m : List (List UInt8)) (k : Nat) : (items l m k).length ≤ 2 * k := by
  induction k with
  | zero => simp [items]
  | succ k ih =>
    have h1 : ((l[k]?.map numItem).getD []).length ≤ 1 := by
      cases l[k]? with
      | none => simp
      | some n => simp only [Option.map_some, Option.getD_some, numItem]; split <;> simp
    have h2 : ((m[k]?.map bytesItem).getD []).length ≤ 1 := by
      cases m[k]? with
      | none => simp
      | some n => simp only [Option.map_some, Option.getD_some, bytesItem]; split <;> simp
    simp only [items, List.length_append]; omega

theorem num_len6 (n : Nat) (hn : n < 281474976710656) : (num n).length ≤ 7 := by
  have := le_len n 6 hn
  simp [num]; omega

theorem enc_len (l : List Int) (m : List (List UInt8)) (k : Nat) : (enc (items l m k)).length ≤ 14 * k + tot m k := by
  induction k with
  | zero => simp [items, enc]
  | succ k ih =>
    have h1 : (enc ((l[k]?.map numItem).getD [])).length ≤ 7 := by
      cases l[k]? with
      | none => simp [enc]
      | some n =>
        simp only [Option.map_some, Option.getD_some, numItem]
        split
        · simp [enc]
        · have := num_len6 n.toNat (by omega)
          simp only [enc, List.map_cons, List.map_nil, List.flatten_cons, List.flatten_nil, List.append_nil, encItem]
          rw [if_neg (show ¬ n < 0 by omega)]
          exact this
    have h2 : (enc ((m[k]?.map bytesItem).getD [])).length + tot m k ≤ 7 + tot m (k + 1) := by
      cases hq : m[k]? with
      | none => have := List.getElem?_eq_none_iff.1 hq; rw [tot_all m k this, tot_all m (k + 1) (by omega)]; simp [enc]
      | some t =>
        rw [tot_succ m k t hq]
        simp only [Option.map_some, Option.getD_some, bytesItem]
        split
        · simp [enc]; omega
        · have := num_len6 t.length (by omega)
          simp only [enc, List.map_cons, List.map_nil, List.flatten_cons, List.flatten_nil, List.append_nil, encItem]
          rw [if_pos (show (-1 : Int) < 0 by omega), List.length_append]
          omega
    simp only [items, enc_app, List.length_append]; omega
end Go.Proofs.Ytdlimjcidblneaa

/-
  Lists of servers: the plain law.
-/
namespace Go.Proofs.Ytdlimjcidblneaa
open Go Go.RowKit Sl Go.Shelf

theorem le_val (t : List UInt8) : (∀ k, k + 1 = t.length → t[k]? ≠ some 0) → le (val t) = t := by
  induction t with
  | nil => intro _; exact le_zero
  | cons c t ih =>
    intro h
    have hc := c.toNat_lt
    have h2 : ∀ k, k + 1 = t.length → t[k]? ≠ some 0 := fun k hk => by
      have := h (k + 1) (by simp; omega)
      simpa using this
    have hi := ih h2
    have hv : val (c :: t) = c.toNat + 256 * val t := rfl
    have hne : val (c :: t) ≠ 0 := by
      intro h0
      have h1 : c.toNat = 0 := by omega
      have h3 : val t = 0 := by omega
      rw [h3, le_zero] at hi
      subst hi
      have := h 0 rfl
      apply this
      have : c = 0 := UInt8.toNat_inj.1 (by simpa using h1)
      simp [this]
    rw [le_pos _ hne, hv, show (c.toNat + 256 * val t) / 256 = val t from by omega, hi]
    congr 1
    apply UInt8.toNat_inj.1
    simp

/-- Where a number was read without a fault, it stood there as Number puts it. -/
theorem rdNumber_inv {e : Int} {l r : List UInt8} {v : Int} (h : rdNumber e l = (v, 0, r)) : e = 0 ∧ 0 ≤ v ∧ v < 281474976710656 ∧ l = num v.toNat ++ r := by
  obtain ⟨h0, _, _, h48⟩ := rdNumber_ok h
  unfold rdNumber at h
  split at h
  · rename_i he
    simp only [Prod.mk.injEq] at h
    exact absurd h.2.1 he
  · rename_i he
    refine ⟨by simpa using he, h0, h48, ?_⟩
    cases l with
    | nil => simp at h
    | cons c r' =>
      simp only at h
      split at h
      · simp at h
      · split at h
        · simp at h
        · split at h
          · simp at h
          · rename_i h6 h7 h8
            simp only [Prod.mk.injEq, true_and] at h
            obtain ⟨rfl, rfl⟩ := h
            have hlen : (r'.take c.toNat).length = c.toNat := by simp; omega
            have hle : le (val (r'.take c.toNat)) = r'.take c.toNat := le_val _ (fun k hk => by
              rw [hlen] at hk
              rw [List.getElem?_take, if_pos (by omega)]
              intro h9
              apply h8
              refine ⟨by omega, ?_⟩
              rw [← hk, Nat.add_sub_cancel, h9])
            rw [Int.toNat_natCast]
            unfold num
            rw [hle, hlen]
            have : UInt8.ofNat c.toNat = c := by simp
            rw [this]
            simp

/-- k numbers in a row. -/
def rdMany : Nat → Int → List UInt8 → List Int × Int × List UInt8
  | 0, e, l => ([], e, l)
  | k + 1, e, l => ((rdNumber e l).1 :: (rdMany k (rdNumber e l).2.1 (rdNumber e l).2.2).1, (rdMany k (rdNumber e l).2.1 (rdNumber e l).2.2).2)

theorem rdMany_length (k : Nat) : ∀ e l, (rdMany k e l).1.length = k := by
  induction k with
  | zero => intro e l; rfl
  | succ k ih => intro e l; simp [rdMany, ih]

theorem rdMany_left (k : Nat) : ∀ e l, (rdMany k e l).2.2.length ≤ l.length := by
  induction k with
  | zero => intro e l; exact Nat.le_refl _
  | succ k ih =>
    intro e l
    have h1 := ih (rdNumber e l).2.1 (rdNumber e l).2.2
    obtain ⟨⟨v, e2, l2⟩, hx⟩ : ∃ x, rdNumber e l = x := ⟨_, rfl⟩
    obtain ⟨_, _, h2, _⟩ := rdNumber_ok hx
    simp only [rdMany]
    rw [hx] at h1 ⊢
    simp only at h1 ⊢
    omega

theorem rdMany_inv (k : Nat) : ∀ {e : Int} {l r : List UInt8} {xs : List Int}, rdMany k e l = (xs, 0, r) → e = 0 ∧ l = (xs.map fun n => num n.toNat).flatten ++ r := by
  induction k with
  | zero => intro e l r xs h; simp only [rdMany, Prod.mk.injEq] at h; obtain ⟨rfl, rfl, rfl⟩ := h; simp
  | succ k ih =>
    intro e l r xs h
    obtain ⟨⟨v, e2, l2⟩, hx⟩ : ∃ x, rdNumber e l = x := ⟨_, rfl⟩
    simp only [rdMany] at h
    rw [hx] at h
    simp only [Prod.mk.injEq] at h
    obtain ⟨rfl, h2⟩ := h
    obtain ⟨rfl, hl⟩ := ih (xs := (rdMany k e2 l2).1) (e := e2) (l := l2) (r := r) (by rw [← h2])
    obtain ⟨rfl, _, _, h3⟩ := rdNumber_inv hx
    refine ⟨rfl, ?_⟩
    rw [h3]
    conv => lhs; rw [hl]
    simp

theorem rdMany_nums (xs : List Int) (h : ∀ x ∈ xs, 0 ≤ x ∧ x < 281474976710656) (r : List UInt8) : rdMany xs.length 0 ((xs.map fun n => num n.toNat).flatten ++ r) = (xs, 0, r) := by
  induction xs with
  | nil => rfl
  | cons x xs ih =>
    have hx := h x (.head _)
    have ih := ih (fun y hy => h y (.tail _ hy))
    simp only [List.length_cons, rdMany, List.map_cons, List.flatten_cons, List.append_assoc]
    rw [rdNumber_num _ (by omega), ih, Int.toNat_of_nonneg hx.1]

theorem rise_bounds {last : Int} (hl : -1 ≤ last) : ∀ {xs : List Int}, rise last xs = true → ∀ x ∈ xs, 0 ≤ x ∧ x < 16 := by
  intro xs
  induction xs generalizing last with
  | nil => intro _ x hx; cases hx
  | cons y ys ih =>
    intro h x hx
    simp only [rise, Bool.and_eq_true, decide_eq_true_eq] at h
    rcases List.mem_cons.1 hx with rfl | hx
    · omega
    · exact ih (by omega) h.2 x hx

/-- What GetServers answers. -/
def getServers (b : List UInt8) : List Int × Int :=
  let x := rdNumber 0 b
  let l := (rdMany (min x.1.toNat 7) x.2.1 x.2.2).1
  if okServers l = true ∧ srvBytes l = b then (l, 0) else ([], 21)

/-- What the document answers. -/
def refGetServers (b : List UInt8) : List Int × Int :=
  let x := rdNumber 0 b
  let y := rdMany (min x.1.toNat 8) x.2.1 x.2.2
  if rdEnd y.2.1 y.2.2 ≠ 0 ∨ x.1 ≠ y.1.length ∨ okServers y.1 = false then ([], 21) else (y.1, 0)

theorem okServers_iff (l : List Int) : okServers l = true ↔ (1 ≤ l.length ∧ l.length ≤ 7) ∧ rise (-1) l = true := by simp [okServers]

theorem getServers_eq (b : List UInt8) : refGetServers b = getServers b := by
  unfold refGetServers getServers
  obtain ⟨⟨v, e, l⟩, hx⟩ : ∃ x, rdNumber 0 b = x := ⟨_, rfl⟩
  rw [hx]
  simp only
  obtain ⟨h0, he0, _, _⟩ := rdNumber_ok hx
  by_cases hw : okServers (rdMany (min v.toNat 7) e l).1 = true ∧ srvBytes (rdMany (min v.toNat 7) e l).1 = b
  · rw [if_pos hw]
    obtain ⟨h1, h2⟩ := hw
    generalize hxs : (rdMany (min v.toNat 7) e l).1 = xs at h1 h2
    have hok := (okServers_iff xs).1 h1
    have hb := rise_bounds (by omega) hok.2
    have hn : rdNumber 0 b = ((xs.length : Int), 0, (xs.map fun n => num n.toNat).flatten) := by
      rw [← h2, srvBytes]
      exact rdNumber_num _ (by omega) _
    rw [hx] at hn
    simp only [Prod.mk.injEq] at hn
    obtain ⟨rfl, rfl, rfl⟩ := hn
    have hm := rdMany_nums xs (fun x hx => by have := hb x hx; omega) []
    rw [List.append_nil] at hm
    rw [Int.toNat_natCast, Nat.min_eq_left (by omega), hm, if_neg]
    simp [rdEnd, h1]
  · rw [if_neg hw]
    split
    · rfl
    · rename_i hr
      exfalso
      apply hw
      simp only [ne_eq, not_or, Decidable.not_not] at hr
      obtain ⟨r1, r2, r3⟩ := hr
      have r3 : okServers (rdMany (min v.toNat 8) e l).1 = true := by simpa using r3
      have hl := (okServers_iff _).1 r3
      rw [rdMany_length] at r2 hl
      have hv7 : v.toNat ≤ 7 := by omega
      rw [Nat.min_eq_left (by omega)] at r1 r3 r2
      rw [Nat.min_eq_left hv7]
      refine ⟨r3, ?_⟩
      obtain ⟨⟨xs, e2, l2⟩, hy⟩ : ∃ y, rdMany v.toNat e l = y := ⟨_, rfl⟩
      have hlen := rdMany_length v.toNat e l
      rw [hy] at r1 r3 hlen ⊢
      simp only at r1 r3 hlen ⊢
      unfold rdEnd at r1
      have he2 : e2 = 0 := by
        by_cases h : e2 = 0
        · exact h
        · rw [if_pos h] at r1; exact absurd r1 h
      subst he2
      have hl2 : l2 = [] := by
        cases l2 with
        | nil => rfl
        | cons => simp at r1
      subst hl2
      obtain ⟨rfl, hl3⟩ := rdMany_inv _ hy
      obtain ⟨_, _, _, hb⟩ := rdNumber_inv hx
      rw [hb, srvBytes, hlen]
      conv => rhs; rw [hl3]
      simp
end Go.Proofs.Ytdlimjcidblneaa

/-
  Lists of servers: the walks.
-/
namespace Go.Proofs.Ytdlimjcidblneaa
open Go Go.RowKit Sl Go.Shelf

set_option maxHeartbeats 1000000 in
theorem ints_spec {w0 w : World} {L : List HP} {A B : Option Addr} {n m c d : Nat} (xs ys : List Int) (hx : Hid (n = xs.length)) (hy : Hid (m = ys.length)) (hn : n ≤ 4294967296) (hm : m ≤ 4294967296) (hs : Sat w0 w L) (hA : Rd w0 L A n 1 (I8 xs)) (hB : Rd w0 L B m 1 (I8 ys)) :
    Calls Try.prog 29 #[.slice A n c, .slice B m d] w (RetB w0 L (decide (xs = ys))) := by
  by_cases hl : n = m
  · subst hl
    go_enter Try.func29, Try.ntmps29
    go_wp2_with fail
    go_loopw [5] (fun i wr => ∃ k : Nat, i = .int .i64 k ∧ k ≤ n ∧ xs.take k = ys.take k ∧ Sat w0 wr L) (fun i _ => n - (intOf i).toNat)
    case atStart => exact ⟨0, rfl, Nat.zero_le _, rfl, hs⟩
    case round =>
      obtain ⟨k, rfl, hk, he, hs2⟩ := hrel
      have He := Hid.mk' he
      clear hs he
      by_cases hkn : k < n
      · obtain ⟨x, hx1⟩ : ∃ x, xs[k]? = some x := ⟨xs[k]'(by have := hx.out; omega), List.getElem?_eq_getElem _⟩
        obtain ⟨y, hy1⟩ : ∃ y, ys[k]? = some y := ⟨ys[k]'(by have := hy.out; omega), List.getElem?_eq_getElem _⟩
        obtain ⟨ga, oa, rfl⟩ := hA.some_of hs2 (by omega)
        obtain ⟨gb, ob, rfl⟩ := hB.some_of hs2 (by omega)
        have ca := hA.elt (I8_at xs k x hx1)
        have cb := hB.elt (I8_at ys k y hy1)
        have i0 : (0 : Int) ≤ (k : Int) := by omega
        have i1 : (k : Int) < (n : Int) := by omega
        have Hx1 := Hid.mk' hx1
        have Hy1 := Hid.mk' hy1
        clear hx1 hy1
        by_cases hxy : x = y
        · subst hxy
          go_wp2_with fail
          refine rg_start rfl hs2 (fun wr0 hsr0 => ?_)
          refine rg_take (i := 0) (v := ?_) rfl (by kernel_rfl) (by kernel_rfl) (by kernel_rfl) (fun _ _ _ h => h) (by with_unfolding_all rfl) (by assumption) ?_ ?_
          rotate_left
          · intro w hSw; (first | (go_simp; done) | (go_simp; with_reducible rfl) | (go_simp; rfl))
          (try simp only [Act.put, List.setIfInBounds_toArray, List.set_cons_zero, List.set_cons_succ])
          refine rg_take (i := 1) (v := ?_) rfl (by kernel_rfl) (by kernel_rfl) (by kernel_rfl) (fun _ _ _ h => h) (by with_unfolding_all rfl) (by assumption) ?_ ?_
          rotate_left
          · intro w hSw; (first | (go_simp; done) | (go_simp; with_reducible rfl) | (go_simp; rfl))
          (try simp only [Act.put, List.setIfInBounds_toArray, List.set_cons_zero, List.set_cons_succ])
          refine rg_take (i := 2) (v := ?_) rfl (by kernel_rfl) (by kernel_rfl) (by kernel_rfl) (fun _ _ _ h => h) (by with_unfolding_all rfl) (by assumption) ?_ ?_
          rotate_left
          · intro w hSw; (first | (go_simp; done) | (go_simp; with_reducible rfl) | (go_simp; rfl))
          (try simp only [Act.put, List.setIfInBounds_toArray, List.set_cons_zero, List.set_cons_succ])
          refine rg_take (i := 3) (v := ?_) rfl (by kernel_rfl) (by kernel_rfl) (by kernel_rfl) (fun _ _ _ h => h) (by with_unfolding_all rfl) (by assumption) ?_ ?_
          rotate_left
          · intro w hSw; ((with_reducible apply yl_load); assumption; rfl; (repeat (first | assumption | ((with_reducible apply Cl.blkL); exact rfl) | with_reducible apply Cl.cons)); rfl)
          (try simp only [Act.put, List.setIfInBounds_toArray, List.set_cons_zero, List.set_cons_succ])
          refine rg_take (i := 4) (v := ?_) rfl (by kernel_rfl) (by kernel_rfl) (by kernel_rfl) (fun _ _ _ h => h) (by with_unfolding_all rfl) (by assumption) ?_ ?_
          rotate_left
          · intro w hSw; (first | (go_simp; done) | (go_simp; with_reducible rfl) | (go_simp; rfl))
          (try simp only [Act.put, List.setIfInBounds_toArray, List.set_cons_zero, List.set_cons_succ])
          refine rg_take (i := 5) (v := ?_) rfl (by kernel_rfl) (by kernel_rfl) (by kernel_rfl) (fun _ _ _ h => h) (by with_unfolding_all rfl) (by assumption) ?_ ?_
          rotate_left
          · intro w hSw; (first | (go_simp; done) | (go_simp; with_reducible rfl) | (go_simp; rfl))
          (try simp only [Act.put, List.setIfInBounds_toArray, List.set_cons_zero, List.set_cons_succ])
          refine rg_take (i := 6) (v := ?_) rfl (by kernel_rfl) (by kernel_rfl) (by kernel_rfl) (fun _ _ _ h => h) (by with_unfolding_all rfl) (by assumption) ?_ ?_
          rotate_left
          · intro w hSw; (first | (go_simp; done) | (go_simp; with_reducible rfl) | (go_simp; rfl))
          (try simp only [Act.put, List.setIfInBounds_toArray, List.set_cons_zero, List.set_cons_succ])
          refine rg_take (i := 7) (v := ?_) rfl (by kernel_rfl) (by kernel_rfl) (by kernel_rfl) (fun _ _ _ h => h) (by with_unfolding_all rfl) (by assumption) ?_ ?_
          rotate_left
          · intro w hSw; ((with_reducible apply yl_load); assumption; rfl; (repeat (first | assumption | ((with_reducible apply Cl.blkL); exact rfl) | with_reducible apply Cl.cons)); rfl)
          (try simp only [Act.put, List.setIfInBounds_toArray, List.set_cons_zero, List.set_cons_succ])
          refine rg_take (i := 8) (v := ?_) rfl (by kernel_rfl) (by kernel_rfl) (by kernel_rfl) (fun _ _ _ h => h) (by with_unfolding_all rfl) (by assumption) ?_ ?_
          rotate_left
          · intro w hSw; (first | (go_simp; done) | (go_simp; with_reducible rfl) | (go_simp; rfl))
          (try simp only [Act.put, List.setIfInBounds_toArray, List.set_cons_zero, List.set_cons_succ])
          refine rg_done (by kernel_rfl) ?_
          go_wp2_with fail
          go_roundw
          case rel => exact ⟨k + 1, by go_num, by omega, by rw [List.take_add_one, List.take_add_one, He.out, Hx1.out, Hy1.out], by first | assumption | (apply Sat.drew; assumption)⟩
          case measure => simp [intOf]; omega
        · have h0 : (x != y) = true := by simp [hxy]
          go_wp2_with fail
          refine rg_start rfl hs2 (fun wr0 hsr0 => ?_)
          refine rg_take (i := 0) (v := ?_) rfl (by kernel_rfl) (by kernel_rfl) (by kernel_rfl) (fun _ _ _ h => h) (by with_unfolding_all rfl) (by assumption) ?_ ?_
          rotate_left
          · intro w hSw; (first | (go_simp; done) | (go_simp; with_reducible rfl) | (go_simp; rfl))
          (try simp only [Act.put, List.setIfInBounds_toArray, List.set_cons_zero, List.set_cons_succ])
          refine rg_take (i := 1) (v := ?_) rfl (by kernel_rfl) (by kernel_rfl) (by kernel_rfl) (fun _ _ _ h => h) (by with_unfolding_all rfl) (by assumption) ?_ ?_
          rotate_left
          · intro w hSw; (first | (go_simp; done) | (go_simp; with_reducible rfl) | (go_simp; rfl))
          (try simp only [Act.put, List.setIfInBounds_toArray, List.set_cons_zero, List.set_cons_succ])
          refine rg_take (i := 2) (v := ?_) rfl (by kernel_rfl) (by kernel_rfl) (by kernel_rfl) (fun _ _ _ h => h) (by with_unfolding_all rfl) (by assumption) ?_ ?_
          rotate_left
          · intro w hSw; (first | (go_simp; done) | (go_simp; with_reducible rfl) | (go_simp; rfl))
          (try simp only [Act.put, List.setIfInBounds_toArray, List.set_cons_zero, List.set_cons_succ])
          refine rg_take (i := 3) (v := ?_) rfl (by kernel_rfl) (by kernel_rfl) (by kernel_rfl) (fun _ _ _ h => h) (by with_unfolding_all rfl) (by assumption) ?_ ?_
          rotate_left
          · intro w hSw; ((with_reducible apply yl_load); assumption; rfl; (repeat (first | assumption | ((with_reducible apply Cl.blkL); exact rfl) | with_reducible apply Cl.cons)); rfl)
          (try simp only [Act.put, List.setIfInBounds_toArray, List.set_cons_zero, List.set_cons_succ])
          refine rg_take (i := 4) (v := ?_) rfl (by kernel_rfl) (by kernel_rfl) (by kernel_rfl) (fun _ _ _ h => h) (by with_unfolding_all rfl) (by assumption) ?_ ?_
          rotate_left
          · intro w hSw; (first | (go_simp; done) | (go_simp; with_reducible rfl) | (go_simp; rfl))
          (try simp only [Act.put, List.setIfInBounds_toArray, List.set_cons_zero, List.set_cons_succ])
          refine rg_take (i := 5) (v := ?_) rfl (by kernel_rfl) (by kernel_rfl) (by kernel_rfl) (fun _ _ _ h => h) (by with_unfolding_all rfl) (by assumption) ?_ ?_
          rotate_left
          · intro w hSw; (first | (go_simp; done) | (go_simp; with_reducible rfl) | (go_simp; rfl))
          (try simp only [Act.put, List.setIfInBounds_toArray, List.set_cons_zero, List.set_cons_succ])
          refine rg_take (i := 6) (v := ?_) rfl (by kernel_rfl) (by kernel_rfl) (by kernel_rfl) (fun _ _ _ h => h) (by with_unfolding_all rfl) (by assumption) ?_ ?_
          rotate_left
          · intro w hSw; (first | (go_simp; done) | (go_simp; with_reducible rfl) | (go_simp; rfl))
          (try simp only [Act.put, List.setIfInBounds_toArray, List.set_cons_zero, List.set_cons_succ])
          refine rg_take (i := 7) (v := ?_) rfl (by kernel_rfl) (by kernel_rfl) (by kernel_rfl) (fun _ _ _ h => h) (by with_unfolding_all rfl) (by assumption) ?_ ?_
          rotate_left
          · intro w hSw; ((with_reducible apply yl_load); assumption; rfl; (repeat (first | assumption | ((with_reducible apply Cl.blkL); exact rfl) | with_reducible apply Cl.cons)); rfl)
          (try simp only [Act.put, List.setIfInBounds_toArray, List.set_cons_zero, List.set_cons_succ])
          refine rg_take (i := 8) (v := ?_) rfl (by kernel_rfl) (by kernel_rfl) (by kernel_rfl) (fun _ _ _ h => h) (by with_unfolding_all rfl) (by assumption) ?_ ?_
          rotate_left
          · intro w hSw; (first | (go_simp; done) | (go_simp; with_reducible rfl) | (go_simp; rfl))
          (try simp only [Act.put, List.setIfInBounds_toArray, List.set_cons_zero, List.set_cons_succ])
          refine rg_done (by kernel_rfl) ?_
          go_wp2_with fail
          go_ret
          have hne : xs ≠ ys := fun e => hxy (by have h1 := Hx1.out; rw [e, Hy1.out] at h1; exact (Option.some.inj h1).symm)
          exact ⟨by simp [hne], by first | assumption | (apply Sat.drew; assumption)⟩
      · obtain rfl : k = n := by omega
        have he2 : xs = ys := by
          have := He.out
          rwa [List.take_of_length_le (by have := hx.out; omega), List.take_of_length_le (by have := hy.out; omega)] at this
        have Hd : Hid (decide (xs = ys) = true) := by unfold Hid; simp [he2]
        clear he2
        go_wp2_with fail
        go_ret
        exact ⟨by rw [Hd.out]; rfl, hs2⟩
  · have h0 : ((n : Int) != (m : Int)) = true := by simp; omega
    have hne : xs ≠ ys := by rintro rfl; have := hx.out; have := hy.out; omega
    have hd : decide (xs = ys) = false := by simp [hne]
    rw [hd]
    clear hne hd
    go_enter Try.func29, Try.ntmps29
    go_wp2_with fail
    go_ret
    exact ⟨rfl, hs⟩

end Go.Proofs.Ytdlimjcidblneaa

/-
  Lists of servers: ServersBytes, PutServers of the document, GetServers.
-/
namespace Go.Proofs.Ytdlimjcidblneaa
open Go Go.RowKit Sl Go.Shelf

def nums (xs : List Int) (k : Nat) : List UInt8 := ((xs.take k).map fun n => num n.toNat).flatten
theorem nums_succ (xs : List Int) (k : Nat) (x : Int) (h : xs[k]? = some x) : nums xs (k + 1) = nums xs k ++ num x.toNat := by
  unfold nums; rw [List.take_add_one, h]; simp

theorem nums_all (xs : List Int) (k : Nat) (h : xs.length ≤ k) : num xs.length ++ nums xs k = srvBytes xs := by
  unfold nums; rw [List.take_of_length_le h]; rfl

theorem rdMany_succ (k : Nat) : ∀ e l, rdMany (k + 1) e l = ((rdMany k e l).1 ++ [(rdNumber (rdMany k e l).2.1 (rdMany k e l).2.2).1], (rdNumber (rdMany k e l).2.1 (rdMany k e l).2.2).2) := by
  induction k with
  | zero => intro e l; rfl
  | succ k ih =>
    intro e l
    have h := ih (rdNumber e l).2.1 (rdNumber e l).2.2
    show ((rdNumber e l).1 :: (rdMany (k + 1) _ _).1, (rdMany (k + 1) _ _).2) = _
    rw [h]
    rfl

/-- It has returned the numbers x.1 and the error x.2. -/
def RetI (w0 : World) (L : List HP) (x : List Int × Int) (e : Ending) (w' : World) : Prop := ∃ A c n, Hid (n = x.1.length) ∧ e = .returned (.tuple #[.slice A n c, .int .i64 x.2]) ∧ Sat w0 w' (own 3 1 A c n (I8 x.1) :: L)

end Go.Proofs.Ytdlimjcidblneaa

/-
  GetServers of the document. (This template was written by srv4gen.py.)
-/
namespace Go.Proofs.Ytdlimjcidblneaa
open Go Go.RowKit Sl Go.Shelf

end Go.Proofs.Ytdlimjcidblneaa
