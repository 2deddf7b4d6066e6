/-
  WireBack: the plain law.
-/
import Derived.Test.YtcpcdhlfdabbnaaWire9
import Derived.Test.YtcpcdhlfdabbnaaWk
namespace Go.Proofs.Ytcpcdhlfdabbnaa
open Go Go.RowKit Sl Go.Shelf

theorem val_le (n : Nat) : val (le n) = n := by
  induction n using Nat.strongRecOn with
  | _ n ih =>
    by_cases h : n = 0
    · subst h; rw [le_zero]; rfl
    · rw [le_pos n h]
      simp only [val]
      rw [ih (n / 256) (by omega)]
      have : (UInt8.ofNat n).toNat = n % 256 := by simp
      omega

theorem le_last (n : Nat) : ∀ (_ : n ≠ 0), (le n)[(le n).length - 1]? ≠ some 0 := by
  induction n using Nat.strongRecOn with
  | _ n ih =>
    intro h
    rw [le_pos n h]
    by_cases h2 : n / 256 = 0
    · rw [h2, le_zero]
      simp
      intro h3
      have : (UInt8.ofNat n).toNat = 0 := by rw [h3]; rfl
      simp at this
      omega
    · have := ih (n / 256) (by omega) h2
      have hl : (le (n / 256)).length ≠ 0 := by
        intro h0
        rw [le_pos _ h2] at h0
        simp at h0
      obtain ⟨k, hk⟩ : ∃ k, (le (n / 256)).length = k + 1 := ⟨(le (n / 256)).length - 1, by omega⟩
      rw [hk] at this
      simp only [List.length_cons, hk, Nat.add_sub_cancel, List.getElem?_cons_succ] at this ⊢
      exact this

theorem le_len0 (n : Nat) (h : n ≠ 0) : 0 < (le n).length := by rw [le_pos n h]; simp

/-- A number that was put is read back, whatever follows. -/
theorem rdNumber_num (n : Nat) (hn : n < 281474976710656) (rest : List UInt8) : rdNumber 0 (num n ++ rest) = ((n : Int), 0, rest) := by
  have hl : (le n).length ≤ 6 := le_len n 6 hn
  have hb : (UInt8.ofNat (le n).length).toNat = (le n).length := by
    simp; omega
  have e : num n ++ rest = UInt8.ofNat (le n).length :: (le n ++ rest) := rfl
  rw [e]
  unfold rdNumber
  simp only [ne_eq, not_true, if_false, hb]
  rw [if_neg (by omega), if_neg (by simp), if_neg, List.take_left, List.drop_left, val_le]
  rintro ⟨h1, h2⟩
  have h0 : n ≠ 0 := by rintro rfl; rw [le_zero] at h1; simp at h1
  rw [List.getElem?_append_left (by omega)] at h2
  exact le_last n h0 h2

theorem rdBytes_text (t : List UInt8) (ht : t.length ≤ 1048576) (rest : List UInt8) : rdBytes 0 (num t.length ++ t ++ rest) = (t, 0, rest) := by
  unfold rdBytes
  rw [List.append_assoc, rdNumber_num _ (by omega)]
  simp only [ne_eq, not_true, if_false]
  rw [if_neg (by omega), if_neg (by simp; omega), Int.toNat_natCast, List.take_left, List.drop_left]

/-- What is put behind: a number, or bytes (then the number is -1). -/
abbrev Item := Int × List UInt8

def encItem (x : Item) : List UInt8 := if x.1 < 0 then num x.2.length ++ x.2 else num x.1.toNat
def numItem (n : Int) : List Item := if n < 0 ∨ 281474976710656 ≤ n then [] else [(n, [])]
def bytesItem (t : List UInt8) : List Item := if 1048576 < t.length then [] else [(-1, t)]
def okItem (x : Item) : Prop := (x.1 < 0 → x.2.length ≤ 1048576 ∧ x.1 = -1) ∧ (0 ≤ x.1 → x.1 < 281474976710656 ∧ x.2 = [])

/-- The items of the first k rounds. -/
def items (l : List Int) (m : List (List UInt8)) : Nat → List Item
  | 0 => []
  | k + 1 => items l m k ++ (l[k]?.map numItem).getD [] ++ (m[k]?.map bytesItem).getD []

def enc (xs : List Item) : List UInt8 := (xs.map encItem).flatten
theorem enc_app (xs ys : List Item) : enc (xs ++ ys) = enc xs ++ enc ys := by simp [enc]

theorem items_ok (l : List Int) (m : List (List UInt8)) (k : Nat) : ∀ x ∈ items l m k, okItem x := by
  induction k with
  | zero => simp [items]
  | succ k ih =>
    intro x hx
    simp only [items, List.mem_append] at hx
    rcases hx with (hx | hx) | hx
    · exact ih x hx
    · cases hq : l[k]? with
      | none => rw [hq] at hx; simp at hx
      | some n =>
        rw [hq] at hx
        simp only [Option.map_some, Option.getD_some, numItem] at hx
        split at hx
        · simp at hx
        · simp at hx; subst hx; constructor <;> simp <;> omega
    · cases hq : m[k]? with
      | none => rw [hq] at hx; simp at hx
      | some t =>
        rw [hq] at hx
        simp only [Option.map_some, Option.getD_some, bytesItem] at hx
        split at hx
        · simp at hx
        · simp at hx; subst hx; constructor <;> simp; omega

theorem enc_drop (xs : List Item) (k : Nat) (x : Item) (h : xs[k]? = some x) : enc (xs.drop k) = encItem x ++ enc (xs.drop (k + 1)) := by
  rw [drop_at xs k x h]; simp [enc]

theorem items_len (l : List Int) (m : List (List UInt8)) (k : Nat) : (items l m k).length ≤ 2 * k := by
  induction k with
  | zero => simp [items]
  | succ k ih =>
    have h1 : ((l[k]?.map numItem).getD []).length ≤ 1 := by
      cases l[k]? with
      | none => simp
      | some n => simp only [Option.map_some, Option.getD_some, numItem]; split <;> simp
    have h2 : ((m[k]?.map bytesItem).getD []).length ≤ 1 := by
      cases m[k]? with
      | none => simp
      | some n => simp only [Option.map_some, Option.getD_some, bytesItem]; split <;> simp
    simp only [items, List.length_append]; omega

theorem num_len6 (n : Nat) (hn : n < 281474976710656) : (num n).length ≤ 7 := by
  have := le_len n 6 hn
  simp [num]; omega

theorem enc_len (l : List Int) (m : List (List UInt8)) (k : Nat) : (enc (items l m k)).length ≤ 14 * k + tot m k := by
  induction k with
  | zero => simp [items, enc]
  | succ k ih =>
    have h1 : (enc ((l[k]?.map numItem).getD [])).length ≤ 7 := by
      cases l[k]? with
      | none => simp [enc]
      | some n =>
        simp only [Option.map_some, Option.getD_some, numItem]
        split
        · simp [enc]
        · have := num_len6 n.toNat (by omega)
          simp only [enc, List.map_cons, List.map_nil, List.flatten_cons, List.flatten_nil, List.append_nil, encItem]
          rw [if_neg (show ¬ n < 0 by omega)]
          exact this
    have h2 : (enc ((m[k]?.map bytesItem).getD [])).length + tot m k ≤ 7 + tot m (k + 1) := by
      cases hq : m[k]? with
      | none => have := List.getElem?_eq_none_iff.1 hq; rw [tot_all m k this, tot_all m (k + 1) (by omega)]; simp [enc]
      | some t =>
        rw [tot_succ m k t hq]
        simp only [Option.map_some, Option.getD_some, bytesItem]
        split
        · simp [enc]; omega
        · have := num_len6 t.length (by omega)
          simp only [enc, List.map_cons, List.map_nil, List.flatten_cons, List.flatten_nil, List.append_nil, encItem]
          rw [if_pos (show (-1 : Int) < 0 by omega), List.length_append]
          omega
    simp only [items, enc_app, List.length_append]; omega
end Go.Proofs.Ytcpcdhlfdabbnaa

/-
  Lists of servers: the plain law.
-/
namespace Go.Proofs.Ytcpcdhlfdabbnaa
open Go Go.RowKit Sl Go.Shelf

theorem le_val (t : List UInt8) : (∀ k, k + 1 = t.length → t[k]? ≠ some 0) → le (val t) = t := by
  induction t with
  | nil => intro _; exact le_zero
  | cons c t ih =>
    intro h
    have hc := c.toNat_lt
    have h2 : ∀ k, k + 1 = t.length → t[k]? ≠ some 0 := fun k hk => by
      have := h (k + 1) (by simp; omega)
      simpa using this
    have hi := ih h2
    have hv : val (c :: t) = c.toNat + 256 * val t := rfl
    have hne : val (c :: t) ≠ 0 := by
      intro h0
      have h1 : c.toNat = 0 := by omega
      have h3 : val t = 0 := by omega
      rw [h3, le_zero] at hi
      subst hi
      have := h 0 rfl
      apply this
      have : c = 0 := UInt8.toNat_inj.1 (by simpa using h1)
      simp [this]
    rw [le_pos _ hne, hv, show (c.toNat + 256 * val t) / 256 = val t from by omega, hi]
    congr 1
    apply UInt8.toNat_inj.1
    simp

/-- Where a number was read without a fault, it stood there as Number puts it. -/
theorem rdNumber_inv {e : Int} {l r : List UInt8} {v : Int} (h : rdNumber e l = (v, 0, r)) : e = 0 ∧ 0 ≤ v ∧ v < 281474976710656 ∧ l = num v.toNat ++ r := by
  obtain ⟨h0, _, _, h48⟩ := rdNumber_ok h
  unfold rdNumber at h
  split at h
  · rename_i he
    simp only [Prod.mk.injEq] at h
    exact absurd h.2.1 he
  · rename_i he
    refine ⟨by simpa using he, h0, h48, ?_⟩
    cases l with
    | nil => simp at h
    | cons c r' =>
      simp only at h
      split at h
      · simp at h
      · split at h
        · simp at h
        · split at h
          · simp at h
          · rename_i h6 h7 h8
            simp only [Prod.mk.injEq, true_and] at h
            obtain ⟨rfl, rfl⟩ := h
            have hlen : (r'.take c.toNat).length = c.toNat := by simp; omega
            have hle : le (val (r'.take c.toNat)) = r'.take c.toNat := le_val _ (fun k hk => by
              rw [hlen] at hk
              rw [List.getElem?_take, if_pos (by omega)]
              intro h9
              apply h8
              refine ⟨by omega, ?_⟩
              rw [← hk, Nat.add_sub_cancel, h9])
            rw [Int.toNat_natCast]
            unfold num
            rw [hle, hlen]
            have : UInt8.ofNat c.toNat = c := by simp
            rw [this]
            simp

/-- k numbers in a row. -/
def rdMany : Nat → Int → List UInt8 → List Int × Int × List UInt8
  | 0, e, l => ([], e, l)
  | k + 1, e, l => ((rdNumber e l).1 :: (rdMany k (rdNumber e l).2.1 (rdNumber e l).2.2).1, (rdMany k (rdNumber e l).2.1 (rdNumber e l).2.2).2)

theorem rdMany_length (k : Nat) : ∀ e l, (rdMany k e l).1.length = k := by
  induction k with
  | zero => intro e l; rfl
  | succ k ih => intro e l; simp [rdMany, ih]

theorem rdMany_left (k : Nat) : ∀ e l, (rdMany k e l).2.2.length ≤ l.length := by
  induction k with
  | zero => intro e l; exact Nat.le_refl _
  | succ k ih =>
    intro e l
    have h1 := ih (rdNumber e l).2.1 (rdNumber e l).2.2
    obtain ⟨⟨v, e2, l2⟩, hx⟩ : ∃ x, rdNumber e l = x := ⟨_, rfl⟩
    obtain ⟨_, _, h2, _⟩ := rdNumber_ok hx
    simp only [rdMany]
    rw [hx] at h1 ⊢
    simp only at h1 ⊢
    omega

theorem rdMany_inv (k : Nat) : ∀ {e : Int} {l r : List UInt8} {xs : List Int}, rdMany k e l = (xs, 0, r) → e = 0 ∧ l = (xs.map fun n => num n.toNat).flatten ++ r := by
  induction k with
  | zero => intro e l r xs h; simp only [rdMany, Prod.mk.injEq] at h; obtain ⟨rfl, rfl, rfl⟩ := h; simp
  | succ k ih =>
    intro e l r xs h
    obtain ⟨⟨v, e2, l2⟩, hx⟩ : ∃ x, rdNumber e l = x := ⟨_, rfl⟩
    simp only [rdMany] at h
    rw [hx] at h
    simp only [Prod.mk.injEq] at h
    obtain ⟨rfl, h2⟩ := h
    obtain ⟨rfl, hl⟩ := ih (xs := (rdMany k e2 l2).1) (e := e2) (l := l2) (r := r) (by rw [← h2])
    obtain ⟨rfl, _, _, h3⟩ := rdNumber_inv hx
    refine ⟨rfl, ?_⟩
    rw [h3]
    conv => lhs; rw [hl]
    simp

theorem rdMany_nums (xs : List Int) (h : ∀ x ∈ xs, 0 ≤ x ∧ x < 281474976710656) (r : List UInt8) : rdMany xs.length 0 ((xs.map fun n => num n.toNat).flatten ++ r) = (xs, 0, r) := by
  induction xs with
  | nil => rfl
  | cons x xs ih =>
    have hx := h x (.head _)
    have ih := ih (fun y hy => h y (.tail _ hy))
    simp only [List.length_cons, rdMany, List.map_cons, List.flatten_cons, List.append_assoc]
    rw [rdNumber_num _ (by omega), ih, Int.toNat_of_nonneg hx.1]

theorem rise_bounds {last : Int} (hl : -1 ≤ last) : ∀ {xs : List Int}, rise last xs = true → ∀ x ∈ xs, 0 ≤ x ∧ x < 16 := by
  intro xs
  induction xs generalizing last with
  | nil => intro _ x hx; cases hx
  | cons y ys ih =>
    intro h x hx
    simp only [rise, Bool.and_eq_true, decide_eq_true_eq] at h
    rcases List.mem_cons.1 hx with rfl | hx
    · omega
    · exact ih (by omega) h.2 x hx

/-- What GetServers answers. -/
def getServers (b : List UInt8) : List Int × Int :=
  let x := rdNumber 0 b
  let l := (rdMany (min x.1.toNat 7) x.2.1 x.2.2).1
  if okServers l = true ∧ srvBytes l = b then (l, 0) else ([], 21)

/-- What the document answers. -/
def refGetServers (b : List UInt8) : List Int × Int :=
  let x := rdNumber 0 b
  let y := rdMany (min x.1.toNat 8) x.2.1 x.2.2
  if rdEnd y.2.1 y.2.2 ≠ 0 ∨ x.1 ≠ y.1.length ∨ okServers y.1 = false then ([], 21) else (y.1, 0)

theorem okServers_iff (l : List Int) : okServers l = true ↔ (1 ≤ l.length ∧ l.length ≤ 7) ∧ rise (-1) l = true := by simp [okServers]

theorem getServers_eq (b : List UInt8) : refGetServers b = getServers b := by
  unfold refGetServers getServers
  obtain ⟨⟨v, e, l⟩, hx⟩ : ∃ x, rdNumber 0 b = x := ⟨_, rfl⟩
  rw [hx]
  simp only
  obtain ⟨h0, he0, _, _⟩ := rdNumber_ok hx
  by_cases hw : okServers (rdMany (min v.toNat 7) e l).1 = true ∧ srvBytes (rdMany (min v.toNat 7) e l).1 = b
  · rw [if_pos hw]
    obtain ⟨h1, h2⟩ := hw
    generalize hxs : (rdMany (min v.toNat 7) e l).1 = xs at h1 h2
    have hok := (okServers_iff xs).1 h1
    have hb := rise_bounds (by omega) hok.2
    have hn : rdNumber 0 b = ((xs.length : Int), 0, (xs.map fun n => num n.toNat).flatten) := by
      rw [← h2, srvBytes]
      exact rdNumber_num _ (by omega) _
    rw [hx] at hn
    simp only [Prod.mk.injEq] at hn
    obtain ⟨rfl, rfl, rfl⟩ := hn
    have hm := rdMany_nums xs (fun x hx => by have := hb x hx; omega) []
    rw [List.append_nil] at hm
    rw [Int.toNat_natCast, Nat.min_eq_left (by omega), hm, if_neg]
    simp [rdEnd, h1]
  · rw [if_neg hw]
    split
    · rfl
    · rename_i hr
      exfalso
      apply hw
      simp only [ne_eq, not_or, Decidable.not_not] at hr
      obtain ⟨r1, r2, r3⟩ := hr
      have r3 : okServers (rdMany (min v.toNat 8) e l).1 = true := by simpa using r3
      have hl := (okServers_iff _).1 r3
      rw [rdMany_length] at r2 hl
      have hv7 : v.toNat ≤ 7 := by omega
      rw [Nat.min_eq_left (by omega)] at r1 r3 r2
      rw [Nat.min_eq_left hv7]
      refine ⟨r3, ?_⟩
      obtain ⟨⟨xs, e2, l2⟩, hy⟩ : ∃ y, rdMany v.toNat e l = y := ⟨_, rfl⟩
      have hlen := rdMany_length v.toNat e l
      rw [hy] at r1 r3 hlen ⊢
      simp only at r1 r3 hlen ⊢
      unfold rdEnd at r1
      have he2 : e2 = 0 := by
        by_cases h : e2 = 0
        · exact h
        · rw [if_pos h] at r1; exact absurd r1 h
      subst he2
      have hl2 : l2 = [] := by
        cases l2 with
        | nil => rfl
        | cons => simp at r1
      subst hl2
      obtain ⟨rfl, hl3⟩ := rdMany_inv _ hy
      obtain ⟨_, _, _, hb⟩ := rdNumber_inv hx
      rw [hb, srvBytes, hlen]
      conv => rhs; rw [hl3]
      simp
end Go.Proofs.Ytcpcdhlfdabbnaa

/-
  Lists of servers: the walks.
-/
namespace Go.Proofs.Ytcpcdhlfdabbnaa
open Go Go.RowKit Sl Go.Shelf

theorem equal_spec {w0 w : World} {L : List HP} {A B : Option Addr} {n m c d : Nat} (l k : List UInt8) (hs : Sat w0 w L) (hA : Rd w0 L A n 1 (B8 l)) (hB : Rd w0 L B m 1 (B8 k)) :
    Calls Try.prog 47 #[.slice A n c, .slice B m d] w fun r w' => r = .returned (.bool (l == k)) ∧ w = w' := by
  go_enter Try.func47, Try.ntmps47
  go_wp2_with (first | ((with_reducible apply wl_unguard); rfl) | ((with_reducible apply wl_buildSlice); assumption; rfl; (go_simp; rfl); (simp [Value.cells]); omega; intro b w1 hs1) | ((with_reducible apply wl_append); go_must (assumption; rfl; rfl; (repeat (first | exact Out.here _ | apply Out.there)); (repeat (first | assumption | exact Rd.own | exact Rd.nil | apply Rd.cons)); (first | exact B8_one _ | exact I8_one _ | (simp [Value.oneCell'])); (first | omega | (simp only [maxLen]; omega)); omega; intro A1 c1 w1 hs1 hc1; (try ((refine hs1.own_elim ?_ ?_); omega; rintro g1 rfl)); try simp only [Nat.zero_add, List.nil_append] at hs1 hc1)) | ((with_reducible apply wl_store_own); assumption; rfl; (go_simp; rfl); (repeat (first | exact Out.here _ | apply Out.there)); rfl; rfl; omega; intro w1 hs1) | ((with_reducible apply wl_store1); assumption; rfl; (go_simp; rfl); (repeat (first | exact Out.here _ | apply Out.there)); rfl; rfl; simp; intro w1 hs1; (try simp only [List.setIfInBounds_toArray] at hs1); (try simp only [List.set_cons_succ] at hs1); (try simp only [List.set_cons_zero] at hs1)) | ((with_reducible apply wl_load); assumption; rfl; (repeat (first | assumption | exact Cl.blk rfl | apply Cl.cons))) | ((with_reducible apply wl_b2s); assumption; rfl; (repeat (first | assumption | exact Rd.own | exact Rd.nil | apply Rd.cons)); first | rfl | (simp [B8_app])))
  go_ret
  exact ⟨rfl, rfl⟩

set_option maxHeartbeats 1000000 in
theorem rightServers_spec {w0 w : World} {L : List HP} {A : Option Addr} {n c : Nat} (xs : List Int) (hx : Hid (n = xs.length)) (hn : n ≤ 4294967296) (hs : Sat w0 w L) (hA : Rd w0 L A n 1 (I8 xs)) :
    Calls Try.prog 76 #[.slice A n c] w (RetB w0 L (okServers xs)) := by
  go_enter Try.func76, Try.ntmps76
  go_wp2_with fail
  go_loopw [3] (fun i wr => ∃ (k : Nat) (last : Int), i = .int .i64 k ∧ k ≤ n ∧ -1 ≤ last ∧ (k = 0 → last = -1) ∧ (0 < k → xs[k - 1]? = some last) ∧ rise (-1) xs = rise last (xs.drop k) ∧ Sat w0 wr L) (fun i _ => n - (intOf i).toNat)
  case atStart => exact ⟨0, -1, rfl, Nat.zero_le _, by omega, fun _ => rfl, by omega, rfl, hs⟩
  case round =>
    obtain ⟨k, last, rfl, hk, hl1, hl0, hlk, he, hs2⟩ := hrel
    clear hs
    by_cases hkn : k < n
    · obtain ⟨x, hx1⟩ : ∃ x, xs[k]? = some x := ⟨xs[k]'(by have := hx.out; omega), List.getElem?_eq_getElem _⟩
      obtain ⟨ga, oa, rfl⟩ := hA.some_of hs2 (by omega)
      have ca := hA.elt (I8_at xs k x hx1)
      have i0 : (0 : Int) ≤ (k : Int) := by omega
      have i1 : (k : Int) < (n : Int) := by omega
      have hr : rise last (xs.drop k) = (decide (last < x ∧ x < 16) && rise x (xs.drop (k + 1))) := by rw [drop_at xs k x hx1]; rfl
      have Hx1 := Hid.mk' hx1
      have He := Hid.mk' (he.trans hr)
      have Hl1 := Hid.mk' hl1
      clear hx1 he hr hl1
      have bad : ¬ (last < x ∧ x < 16) → Hid (okServers xs = false) := fun h => by
        unfold Hid okServers
        rw [He.out]
        simp only [h, decide_false, Bool.false_and, Bool.and_false]
      have good : last < x ∧ x < 16 → Hid (rise (-1) xs = rise x (xs.drop (k + 1))) := fun h => by
        unfold Hid
        rw [He.out, decide_eq_true h, Bool.true_and]
      by_cases hx0 : x < 0
      · have d0 : decide (x < 0) = true := by simp [hx0]
        have hb := bad (by have := Hl1.out; omega)
        clear bad good hlk hl0
        go_wp2_with fail
        refine rg_start rfl hs2 (fun wr0 hsr0 => ?_)
        refine rg_take (i := 0) (v := ?_) rfl (by kernel_rfl) (by kernel_rfl) (by kernel_rfl) (fun _ _ _ h => h) (by with_unfolding_all rfl) (by assumption) ?_ ?_
        rotate_left
        · intro w hSw; (first | (go_simp; done) | (go_simp; with_reducible rfl) | (go_simp; rfl))
        (try simp only [Act.put, List.setIfInBounds_toArray, List.set_cons_zero, List.set_cons_succ])
        refine rg_take (i := 1) (v := ?_) rfl (by kernel_rfl) (by kernel_rfl) (by kernel_rfl) (fun _ _ _ h => h) (by with_unfolding_all rfl) (by assumption) ?_ ?_
        rotate_left
        · intro w hSw; (first | (go_simp; done) | (go_simp; with_reducible rfl) | (go_simp; rfl))
        (try simp only [Act.put, List.setIfInBounds_toArray, List.set_cons_zero, List.set_cons_succ])
        refine rg_take (i := 2) (v := ?_) rfl (by kernel_rfl) (by kernel_rfl) (by kernel_rfl) (fun _ _ _ h => h) (by with_unfolding_all rfl) (by assumption) ?_ ?_
        rotate_left
        · intro w hSw; (first | (go_simp; done) | (go_simp; with_reducible rfl) | (go_simp; rfl))
        (try simp only [Act.put, List.setIfInBounds_toArray, List.set_cons_zero, List.set_cons_succ])
        refine rg_take (i := 3) (v := ?_) rfl (by kernel_rfl) (by kernel_rfl) (by kernel_rfl) (fun _ _ _ h => h) (by with_unfolding_all rfl) (by assumption) ?_ ?_
        rotate_left
        · intro w hSw; ((with_reducible apply yl_load); assumption; rfl; (repeat (first | assumption | ((with_reducible apply Cl.blkL); exact rfl) | with_reducible apply Cl.cons)); rfl)
        (try simp only [Act.put, List.setIfInBounds_toArray, List.set_cons_zero, List.set_cons_succ])
        refine rg_take (i := 4) (v := ?_) rfl (by kernel_rfl) (by kernel_rfl) (by kernel_rfl) (fun _ _ _ h => h) (by with_unfolding_all rfl) (by assumption) ?_ ?_
        rotate_left
        · intro w hSw; (first | (go_simp; done) | (go_simp; with_reducible rfl) | (go_simp; rfl))
        (try simp only [Act.put, List.setIfInBounds_toArray, List.set_cons_zero, List.set_cons_succ])
        refine rg_take (i := 5) (v := ?_) rfl (by kernel_rfl) (by kernel_rfl) (by kernel_rfl) (fun _ _ _ h => h) (by with_unfolding_all rfl) (by assumption) ?_ ?_
        rotate_left
        · intro w hSw; (first | (go_simp; done) | (go_simp; with_reducible rfl) | (go_simp; rfl))
        (try simp only [Act.put, List.setIfInBounds_toArray, List.set_cons_zero, List.set_cons_succ])
        refine rg_skip (i := 6) rfl (by kernel_rfl) (by kernel_rfl) (by kernel_rfl) (fun _ _ _ h => h) (by with_unfolding_all rfl) (by assumption) ?_
        (try simp only [Act.put, List.setIfInBounds_toArray, List.set_cons_zero, List.set_cons_succ])
        refine rg_skip (i := 7) rfl (by kernel_rfl) (by kernel_rfl) (by kernel_rfl) (fun _ _ _ h => h) (by with_unfolding_all rfl) (by assumption) ?_
        (try simp only [Act.put, List.setIfInBounds_toArray, List.set_cons_zero, List.set_cons_succ])
        refine rg_skip (i := 8) rfl (by kernel_rfl) (by kernel_rfl) (by kernel_rfl) (fun _ _ _ h => h) (by with_unfolding_all rfl) (by assumption) ?_
        (try simp only [Act.put, List.setIfInBounds_toArray, List.set_cons_zero, List.set_cons_succ])
        refine rg_skip (i := 9) rfl (by kernel_rfl) (by kernel_rfl) (by kernel_rfl) (fun _ _ _ h => h) (by with_unfolding_all rfl) (by assumption) ?_
        (try simp only [Act.put, List.setIfInBounds_toArray, List.set_cons_zero, List.set_cons_succ])
        refine rg_skip (i := 10) rfl (by kernel_rfl) (by kernel_rfl) (by kernel_rfl) (fun _ _ _ h => h) (by with_unfolding_all rfl) (by assumption) ?_
        (try simp only [Act.put, List.setIfInBounds_toArray, List.set_cons_zero, List.set_cons_succ])
        refine rg_take (i := 11) (v := ?_) rfl (by kernel_rfl) (by kernel_rfl) (by kernel_rfl) (fun _ _ _ h => h) (by with_unfolding_all rfl) (by assumption) ?_ ?_
        rotate_left
        · intro w hSw; (first | (go_simp; done) | (go_simp; with_reducible rfl) | (go_simp; rfl))
        (try simp only [Act.put, List.setIfInBounds_toArray, List.set_cons_zero, List.set_cons_succ])
        refine rg_take (i := 12) (v := ?_) rfl (by kernel_rfl) (by kernel_rfl) (by kernel_rfl) (fun _ _ _ h => h) (by with_unfolding_all rfl) (by assumption) ?_ ?_
        rotate_left
        · intro w hSw; (first | (go_simp; done) | (go_simp; with_reducible rfl) | (go_simp; rfl))
        (try simp only [Act.put, List.setIfInBounds_toArray, List.set_cons_zero, List.set_cons_succ])
        refine rg_skip (i := 13) rfl (by kernel_rfl) (by kernel_rfl) (by kernel_rfl) (fun _ _ _ h => h) (by with_unfolding_all rfl) (by assumption) ?_
        (try simp only [Act.put, List.setIfInBounds_toArray, List.set_cons_zero, List.set_cons_succ])
        refine rg_skip (i := 14) rfl (by kernel_rfl) (by kernel_rfl) (by kernel_rfl) (fun _ _ _ h => h) (by with_unfolding_all rfl) (by assumption) ?_
        (try simp only [Act.put, List.setIfInBounds_toArray, List.set_cons_zero, List.set_cons_succ])
        refine rg_skip (i := 15) rfl (by kernel_rfl) (by kernel_rfl) (by kernel_rfl) (fun _ _ _ h => h) (by with_unfolding_all rfl) (by assumption) ?_
        (try simp only [Act.put, List.setIfInBounds_toArray, List.set_cons_zero, List.set_cons_succ])
        refine rg_skip (i := 16) rfl (by kernel_rfl) (by kernel_rfl) (by kernel_rfl) (fun _ _ _ h => h) (by with_unfolding_all rfl) (by assumption) ?_
        (try simp only [Act.put, List.setIfInBounds_toArray, List.set_cons_zero, List.set_cons_succ])
        refine rg_skip (i := 17) rfl (by kernel_rfl) (by kernel_rfl) (by kernel_rfl) (fun _ _ _ h => h) (by with_unfolding_all rfl) (by assumption) ?_
        (try simp only [Act.put, List.setIfInBounds_toArray, List.set_cons_zero, List.set_cons_succ])
        refine rg_skip (i := 18) rfl (by kernel_rfl) (by kernel_rfl) (by kernel_rfl) (fun _ _ _ h => h) (by with_unfolding_all rfl) (by assumption) ?_
        (try simp only [Act.put, List.setIfInBounds_toArray, List.set_cons_zero, List.set_cons_succ])
        refine rg_skip (i := 19) rfl (by kernel_rfl) (by kernel_rfl) (by kernel_rfl) (fun _ _ _ h => h) (by with_unfolding_all rfl) (by assumption) ?_
        (try simp only [Act.put, List.setIfInBounds_toArray, List.set_cons_zero, List.set_cons_succ])
        refine rg_skip (i := 20) rfl (by kernel_rfl) (by kernel_rfl) (by kernel_rfl) (fun _ _ _ h => h) (by with_unfolding_all rfl) (by assumption) ?_
        (try simp only [Act.put, List.setIfInBounds_toArray, List.set_cons_zero, List.set_cons_succ])
        refine rg_skip (i := 21) rfl (by kernel_rfl) (by kernel_rfl) (by kernel_rfl) (fun _ _ _ h => h) (by with_unfolding_all rfl) (by assumption) ?_
        (try simp only [Act.put, List.setIfInBounds_toArray, List.set_cons_zero, List.set_cons_succ])
        refine rg_skip (i := 22) rfl (by kernel_rfl) (by kernel_rfl) (by kernel_rfl) (fun _ _ _ h => h) (by with_unfolding_all rfl) (by assumption) ?_
        (try simp only [Act.put, List.setIfInBounds_toArray, List.set_cons_zero, List.set_cons_succ])
        refine rg_skip (i := 23) rfl (by kernel_rfl) (by kernel_rfl) (by kernel_rfl) (fun _ _ _ h => h) (by with_unfolding_all rfl) (by assumption) ?_
        (try simp only [Act.put, List.setIfInBounds_toArray, List.set_cons_zero, List.set_cons_succ])
        refine rg_skip (i := 24) rfl (by kernel_rfl) (by kernel_rfl) (by kernel_rfl) (fun _ _ _ h => h) (by with_unfolding_all rfl) (by assumption) ?_
        (try simp only [Act.put, List.setIfInBounds_toArray, List.set_cons_zero, List.set_cons_succ])
        refine rg_skip (i := 25) rfl (by kernel_rfl) (by kernel_rfl) (by kernel_rfl) (fun _ _ _ h => h) (by with_unfolding_all rfl) (by assumption) ?_
        (try simp only [Act.put, List.setIfInBounds_toArray, List.set_cons_zero, List.set_cons_succ])
        refine rg_skip (i := 26) rfl (by kernel_rfl) (by kernel_rfl) (by kernel_rfl) (fun _ _ _ h => h) (by with_unfolding_all rfl) (by assumption) ?_
        (try simp only [Act.put, List.setIfInBounds_toArray, List.set_cons_zero, List.set_cons_succ])
        refine rg_take (i := 27) (v := ?_) rfl (by kernel_rfl) (by kernel_rfl) (by kernel_rfl) (fun _ _ _ h => h) (by with_unfolding_all rfl) (by assumption) ?_ ?_
        rotate_left
        · intro w hSw; (first | (go_simp; done) | (go_simp; with_reducible rfl) | (go_simp; rfl))
        (try simp only [Act.put, List.setIfInBounds_toArray, List.set_cons_zero, List.set_cons_succ])
        refine rg_done (by kernel_rfl) ?_
        go_wp2_with fail
        go_ret
        exact ⟨by rw [hb.out]; rfl, by first | assumption | (apply Sat.drew; assumption)⟩
      have d0 : decide (x < 0) = false := by simp; omega
      by_cases hx16 : 16 ≤ x
      · have d1 : decide (16 ≤ x) = true := by simp [hx16]
        have hb := bad (by omega)
        clear bad good hlk hl0
        go_wp2_with fail
        refine rg_start rfl hs2 (fun wr0 hsr0 => ?_)
        refine rg_take (i := 0) (v := ?_) rfl (by kernel_rfl) (by kernel_rfl) (by kernel_rfl) (fun _ _ _ h => h) (by with_unfolding_all rfl) (by assumption) ?_ ?_
        rotate_left
        · intro w hSw; (first | (go_simp; done) | (go_simp; with_reducible rfl) | (go_simp; rfl))
        (try simp only [Act.put, List.setIfInBounds_toArray, List.set_cons_zero, List.set_cons_succ])
        refine rg_take (i := 1) (v := ?_) rfl (by kernel_rfl) (by kernel_rfl) (by kernel_rfl) (fun _ _ _ h => h) (by with_unfolding_all rfl) (by assumption) ?_ ?_
        rotate_left
        · intro w hSw; (first | (go_simp; done) | (go_simp; with_reducible rfl) | (go_simp; rfl))
        (try simp only [Act.put, List.setIfInBounds_toArray, List.set_cons_zero, List.set_cons_succ])
        refine rg_take (i := 2) (v := ?_) rfl (by kernel_rfl) (by kernel_rfl) (by kernel_rfl) (fun _ _ _ h => h) (by with_unfolding_all rfl) (by assumption) ?_ ?_
        rotate_left
        · intro w hSw; (first | (go_simp; done) | (go_simp; with_reducible rfl) | (go_simp; rfl))
        (try simp only [Act.put, List.setIfInBounds_toArray, List.set_cons_zero, List.set_cons_succ])
        refine rg_take (i := 3) (v := ?_) rfl (by kernel_rfl) (by kernel_rfl) (by kernel_rfl) (fun _ _ _ h => h) (by with_unfolding_all rfl) (by assumption) ?_ ?_
        rotate_left
        · intro w hSw; ((with_reducible apply yl_load); assumption; rfl; (repeat (first | assumption | ((with_reducible apply Cl.blkL); exact rfl) | with_reducible apply Cl.cons)); rfl)
        (try simp only [Act.put, List.setIfInBounds_toArray, List.set_cons_zero, List.set_cons_succ])
        refine rg_take (i := 4) (v := ?_) rfl (by kernel_rfl) (by kernel_rfl) (by kernel_rfl) (fun _ _ _ h => h) (by with_unfolding_all rfl) (by assumption) ?_ ?_
        rotate_left
        · intro w hSw; (first | (go_simp; done) | (go_simp; with_reducible rfl) | (go_simp; rfl))
        (try simp only [Act.put, List.setIfInBounds_toArray, List.set_cons_zero, List.set_cons_succ])
        refine rg_take (i := 5) (v := ?_) rfl (by kernel_rfl) (by kernel_rfl) (by kernel_rfl) (fun _ _ _ h => h) (by with_unfolding_all rfl) (by assumption) ?_ ?_
        rotate_left
        · intro w hSw; (first | (go_simp; done) | (go_simp; with_reducible rfl) | (go_simp; rfl))
        (try simp only [Act.put, List.setIfInBounds_toArray, List.set_cons_zero, List.set_cons_succ])
        refine rg_take (i := 6) (v := ?_) rfl (by kernel_rfl) (by kernel_rfl) (by kernel_rfl) (fun _ _ _ h => h) (by with_unfolding_all rfl) (by assumption) ?_ ?_
        rotate_left
        · intro w hSw; (first | (go_simp; done) | (go_simp; with_reducible rfl) | (go_simp; rfl))
        (try simp only [Act.put, List.setIfInBounds_toArray, List.set_cons_zero, List.set_cons_succ])
        refine rg_take (i := 7) (v := ?_) rfl (by kernel_rfl) (by kernel_rfl) (by kernel_rfl) (fun _ _ _ h => h) (by with_unfolding_all rfl) (by assumption) ?_ ?_
        rotate_left
        · intro w hSw; (first | (go_simp; done) | (go_simp; with_reducible rfl) | (go_simp; rfl))
        (try simp only [Act.put, List.setIfInBounds_toArray, List.set_cons_zero, List.set_cons_succ])
        refine rg_take (i := 8) (v := ?_) rfl (by kernel_rfl) (by kernel_rfl) (by kernel_rfl) (fun _ _ _ h => h) (by with_unfolding_all rfl) (by assumption) ?_ ?_
        rotate_left
        · intro w hSw; (first | (go_simp; done) | (go_simp; with_reducible rfl) | (go_simp; rfl))
        (try simp only [Act.put, List.setIfInBounds_toArray, List.set_cons_zero, List.set_cons_succ])
        refine rg_take (i := 9) (v := ?_) rfl (by kernel_rfl) (by kernel_rfl) (by kernel_rfl) (fun _ _ _ h => h) (by with_unfolding_all rfl) (by assumption) ?_ ?_
        rotate_left
        · intro w hSw; ((with_reducible apply yl_load); assumption; rfl; (repeat (first | assumption | ((with_reducible apply Cl.blkL); exact rfl) | with_reducible apply Cl.cons)); rfl)
        (try simp only [Act.put, List.setIfInBounds_toArray, List.set_cons_zero, List.set_cons_succ])
        refine rg_take (i := 10) (v := ?_) rfl (by kernel_rfl) (by kernel_rfl) (by kernel_rfl) (fun _ _ _ h => h) (by with_unfolding_all rfl) (by assumption) ?_ ?_
        rotate_left
        · intro w hSw; (first | (go_simp; done) | (go_simp; with_reducible rfl) | (go_simp; rfl))
        (try simp only [Act.put, List.setIfInBounds_toArray, List.set_cons_zero, List.set_cons_succ])
        refine rg_take (i := 11) (v := ?_) rfl (by kernel_rfl) (by kernel_rfl) (by kernel_rfl) (fun _ _ _ h => h) (by with_unfolding_all rfl) (by assumption) ?_ ?_
        rotate_left
        · intro w hSw; (first | (go_simp; done) | (go_simp; with_reducible rfl) | (go_simp; rfl))
        (try simp only [Act.put, List.setIfInBounds_toArray, List.set_cons_zero, List.set_cons_succ])
        refine rg_take (i := 12) (v := ?_) rfl (by kernel_rfl) (by kernel_rfl) (by kernel_rfl) (fun _ _ _ h => h) (by with_unfolding_all rfl) (by assumption) ?_ ?_
        rotate_left
        · intro w hSw; (first | (go_simp; done) | (go_simp; with_reducible rfl) | (go_simp; rfl))
        (try simp only [Act.put, List.setIfInBounds_toArray, List.set_cons_zero, List.set_cons_succ])
        refine rg_skip (i := 13) rfl (by kernel_rfl) (by kernel_rfl) (by kernel_rfl) (fun _ _ _ h => h) (by with_unfolding_all rfl) (by assumption) ?_
        (try simp only [Act.put, List.setIfInBounds_toArray, List.set_cons_zero, List.set_cons_succ])
        refine rg_skip (i := 14) rfl (by kernel_rfl) (by kernel_rfl) (by kernel_rfl) (fun _ _ _ h => h) (by with_unfolding_all rfl) (by assumption) ?_
        (try simp only [Act.put, List.setIfInBounds_toArray, List.set_cons_zero, List.set_cons_succ])
        refine rg_skip (i := 15) rfl (by kernel_rfl) (by kernel_rfl) (by kernel_rfl) (fun _ _ _ h => h) (by with_unfolding_all rfl) (by assumption) ?_
        (try simp only [Act.put, List.setIfInBounds_toArray, List.set_cons_zero, List.set_cons_succ])
        refine rg_skip (i := 16) rfl (by kernel_rfl) (by kernel_rfl) (by kernel_rfl) (fun _ _ _ h => h) (by with_unfolding_all rfl) (by assumption) ?_
        (try simp only [Act.put, List.setIfInBounds_toArray, List.set_cons_zero, List.set_cons_succ])
        refine rg_skip (i := 17) rfl (by kernel_rfl) (by kernel_rfl) (by kernel_rfl) (fun _ _ _ h => h) (by with_unfolding_all rfl) (by assumption) ?_
        (try simp only [Act.put, List.setIfInBounds_toArray, List.set_cons_zero, List.set_cons_succ])
        refine rg_skip (i := 18) rfl (by kernel_rfl) (by kernel_rfl) (by kernel_rfl) (fun _ _ _ h => h) (by with_unfolding_all rfl) (by assumption) ?_
        (try simp only [Act.put, List.setIfInBounds_toArray, List.set_cons_zero, List.set_cons_succ])
        refine rg_skip (i := 19) rfl (by kernel_rfl) (by kernel_rfl) (by kernel_rfl) (fun _ _ _ h => h) (by with_unfolding_all rfl) (by assumption) ?_
        (try simp only [Act.put, List.setIfInBounds_toArray, List.set_cons_zero, List.set_cons_succ])
        refine rg_skip (i := 20) rfl (by kernel_rfl) (by kernel_rfl) (by kernel_rfl) (fun _ _ _ h => h) (by with_unfolding_all rfl) (by assumption) ?_
        (try simp only [Act.put, List.setIfInBounds_toArray, List.set_cons_zero, List.set_cons_succ])
        refine rg_skip (i := 21) rfl (by kernel_rfl) (by kernel_rfl) (by kernel_rfl) (fun _ _ _ h => h) (by with_unfolding_all rfl) (by assumption) ?_
        (try simp only [Act.put, List.setIfInBounds_toArray, List.set_cons_zero, List.set_cons_succ])
        refine rg_skip (i := 22) rfl (by kernel_rfl) (by kernel_rfl) (by kernel_rfl) (fun _ _ _ h => h) (by with_unfolding_all rfl) (by assumption) ?_
        (try simp only [Act.put, List.setIfInBounds_toArray, List.set_cons_zero, List.set_cons_succ])
        refine rg_skip (i := 23) rfl (by kernel_rfl) (by kernel_rfl) (by kernel_rfl) (fun _ _ _ h => h) (by with_unfolding_all rfl) (by assumption) ?_
        (try simp only [Act.put, List.setIfInBounds_toArray, List.set_cons_zero, List.set_cons_succ])
        refine rg_skip (i := 24) rfl (by kernel_rfl) (by kernel_rfl) (by kernel_rfl) (fun _ _ _ h => h) (by with_unfolding_all rfl) (by assumption) ?_
        (try simp only [Act.put, List.setIfInBounds_toArray, List.set_cons_zero, List.set_cons_succ])
        refine rg_skip (i := 25) rfl (by kernel_rfl) (by kernel_rfl) (by kernel_rfl) (fun _ _ _ h => h) (by with_unfolding_all rfl) (by assumption) ?_
        (try simp only [Act.put, List.setIfInBounds_toArray, List.set_cons_zero, List.set_cons_succ])
        refine rg_skip (i := 26) rfl (by kernel_rfl) (by kernel_rfl) (by kernel_rfl) (fun _ _ _ h => h) (by with_unfolding_all rfl) (by assumption) ?_
        (try simp only [Act.put, List.setIfInBounds_toArray, List.set_cons_zero, List.set_cons_succ])
        refine rg_take (i := 27) (v := ?_) rfl (by kernel_rfl) (by kernel_rfl) (by kernel_rfl) (fun _ _ _ h => h) (by with_unfolding_all rfl) (by assumption) ?_ ?_
        rotate_left
        · intro w hSw; (first | (go_simp; done) | (go_simp; with_reducible rfl) | (go_simp; rfl))
        (try simp only [Act.put, List.setIfInBounds_toArray, List.set_cons_zero, List.set_cons_succ])
        refine rg_done (by kernel_rfl) ?_
        go_wp2_with fail
        go_ret
        exact ⟨by rw [hb.out]; rfl, by first | assumption | (apply Sat.drew; assumption)⟩
      have d1 : decide (16 ≤ x) = false := by simp; omega
      by_cases hk0 : k = 0
      · have d2 : decide ((0 : Int) < (k : Int)) = false := by simp; omega
        have d2' : decide (0 < k) = false := by simp; omega
        have hg := good (by have := hl0 hk0; omega)
        have hk0' : ¬ 0 < k := by omega
        clear bad good hlk hl0 hk0
        go_wp2_with fail
        refine rg_start rfl hs2 (fun wr0 hsr0 => ?_)
        refine rg_take (i := 0) (v := ?_) rfl (by kernel_rfl) (by kernel_rfl) (by kernel_rfl) (fun _ _ _ h => h) (by with_unfolding_all rfl) (by assumption) ?_ ?_
        rotate_left
        · intro w hSw; (first | (go_simp; done) | (go_simp; with_reducible rfl) | (go_simp; rfl))
        (try simp only [Act.put, List.setIfInBounds_toArray, List.set_cons_zero, List.set_cons_succ])
        refine rg_take (i := 1) (v := ?_) rfl (by kernel_rfl) (by kernel_rfl) (by kernel_rfl) (fun _ _ _ h => h) (by with_unfolding_all rfl) (by assumption) ?_ ?_
        rotate_left
        · intro w hSw; (first | (go_simp; done) | (go_simp; with_reducible rfl) | (go_simp; rfl))
        (try simp only [Act.put, List.setIfInBounds_toArray, List.set_cons_zero, List.set_cons_succ])
        refine rg_take (i := 2) (v := ?_) rfl (by kernel_rfl) (by kernel_rfl) (by kernel_rfl) (fun _ _ _ h => h) (by with_unfolding_all rfl) (by assumption) ?_ ?_
        rotate_left
        · intro w hSw; (first | (go_simp; done) | (go_simp; with_reducible rfl) | (go_simp; rfl))
        (try simp only [Act.put, List.setIfInBounds_toArray, List.set_cons_zero, List.set_cons_succ])
        refine rg_take (i := 3) (v := ?_) rfl (by kernel_rfl) (by kernel_rfl) (by kernel_rfl) (fun _ _ _ h => h) (by with_unfolding_all rfl) (by assumption) ?_ ?_
        rotate_left
        · intro w hSw; ((with_reducible apply yl_load); assumption; rfl; (repeat (first | assumption | ((with_reducible apply Cl.blkL); exact rfl) | with_reducible apply Cl.cons)); rfl)
        (try simp only [Act.put, List.setIfInBounds_toArray, List.set_cons_zero, List.set_cons_succ])
        refine rg_take (i := 4) (v := ?_) rfl (by kernel_rfl) (by kernel_rfl) (by kernel_rfl) (fun _ _ _ h => h) (by with_unfolding_all rfl) (by assumption) ?_ ?_
        rotate_left
        · intro w hSw; (first | (go_simp; done) | (go_simp; with_reducible rfl) | (go_simp; rfl))
        (try simp only [Act.put, List.setIfInBounds_toArray, List.set_cons_zero, List.set_cons_succ])
        refine rg_take (i := 5) (v := ?_) rfl (by kernel_rfl) (by kernel_rfl) (by kernel_rfl) (fun _ _ _ h => h) (by with_unfolding_all rfl) (by assumption) ?_ ?_
        rotate_left
        · intro w hSw; (first | (go_simp; done) | (go_simp; with_reducible rfl) | (go_simp; rfl))
        (try simp only [Act.put, List.setIfInBounds_toArray, List.set_cons_zero, List.set_cons_succ])
        refine rg_take (i := 6) (v := ?_) rfl (by kernel_rfl) (by kernel_rfl) (by kernel_rfl) (fun _ _ _ h => h) (by with_unfolding_all rfl) (by assumption) ?_ ?_
        rotate_left
        · intro w hSw; (first | (go_simp; done) | (go_simp; with_reducible rfl) | (go_simp; rfl))
        (try simp only [Act.put, List.setIfInBounds_toArray, List.set_cons_zero, List.set_cons_succ])
        refine rg_take (i := 7) (v := ?_) rfl (by kernel_rfl) (by kernel_rfl) (by kernel_rfl) (fun _ _ _ h => h) (by with_unfolding_all rfl) (by assumption) ?_ ?_
        rotate_left
        · intro w hSw; (first | (go_simp; done) | (go_simp; with_reducible rfl) | (go_simp; rfl))
        (try simp only [Act.put, List.setIfInBounds_toArray, List.set_cons_zero, List.set_cons_succ])
        refine rg_take (i := 8) (v := ?_) rfl (by kernel_rfl) (by kernel_rfl) (by kernel_rfl) (fun _ _ _ h => h) (by with_unfolding_all rfl) (by assumption) ?_ ?_
        rotate_left
        · intro w hSw; (first | (go_simp; done) | (go_simp; with_reducible rfl) | (go_simp; rfl))
        (try simp only [Act.put, List.setIfInBounds_toArray, List.set_cons_zero, List.set_cons_succ])
        refine rg_take (i := 9) (v := ?_) rfl (by kernel_rfl) (by kernel_rfl) (by kernel_rfl) (fun _ _ _ h => h) (by with_unfolding_all rfl) (by assumption) ?_ ?_
        rotate_left
        · intro w hSw; ((with_reducible apply yl_load); assumption; rfl; (repeat (first | assumption | ((with_reducible apply Cl.blkL); exact rfl) | with_reducible apply Cl.cons)); rfl)
        (try simp only [Act.put, List.setIfInBounds_toArray, List.set_cons_zero, List.set_cons_succ])
        refine rg_take (i := 10) (v := ?_) rfl (by kernel_rfl) (by kernel_rfl) (by kernel_rfl) (fun _ _ _ h => h) (by with_unfolding_all rfl) (by assumption) ?_ ?_
        rotate_left
        · intro w hSw; (first | (go_simp; done) | (go_simp; with_reducible rfl) | (go_simp; rfl))
        (try simp only [Act.put, List.setIfInBounds_toArray, List.set_cons_zero, List.set_cons_succ])
        refine rg_take (i := 11) (v := ?_) rfl (by kernel_rfl) (by kernel_rfl) (by kernel_rfl) (fun _ _ _ h => h) (by with_unfolding_all rfl) (by assumption) ?_ ?_
        rotate_left
        · intro w hSw; (first | (go_simp; done) | (go_simp; with_reducible rfl) | (go_simp; rfl))
        (try simp only [Act.put, List.setIfInBounds_toArray, List.set_cons_zero, List.set_cons_succ])
        refine rg_take (i := 12) (v := ?_) rfl (by kernel_rfl) (by kernel_rfl) (by kernel_rfl) (fun _ _ _ h => h) (by with_unfolding_all rfl) (by assumption) ?_ ?_
        rotate_left
        · intro w hSw; (first | (go_simp; done) | (go_simp; with_reducible rfl) | (go_simp; rfl))
        (try simp only [Act.put, List.setIfInBounds_toArray, List.set_cons_zero, List.set_cons_succ])
        refine rg_take (i := 13) (v := ?_) rfl (by kernel_rfl) (by kernel_rfl) (by kernel_rfl) (fun _ _ _ h => h) (by with_unfolding_all rfl) (by assumption) ?_ ?_
        rotate_left
        · intro w hSw; (first | (go_simp; done) | (go_simp; with_reducible rfl) | (go_simp; rfl))
        (try simp only [Act.put, List.setIfInBounds_toArray, List.set_cons_zero, List.set_cons_succ])
        refine rg_take (i := 14) (v := ?_) rfl (by kernel_rfl) (by kernel_rfl) (by kernel_rfl) (fun _ _ _ h => h) (by with_unfolding_all rfl) (by assumption) ?_ ?_
        rotate_left
        · intro w hSw; (first | (go_simp; done) | (go_simp; with_reducible rfl) | (go_simp; rfl))
        (try simp only [Act.put, List.setIfInBounds_toArray, List.set_cons_zero, List.set_cons_succ])
        refine rg_take (i := 15) (v := ?_) rfl (by kernel_rfl) (by kernel_rfl) (by kernel_rfl) (fun _ _ _ h => h) (by with_unfolding_all rfl) (by assumption) ?_ ?_
        rotate_left
        · intro w hSw; (first | (go_simp; done) | (go_simp; with_reducible rfl) | (go_simp; rfl))
        (try simp only [Act.put, List.setIfInBounds_toArray, List.set_cons_zero, List.set_cons_succ])
        refine rg_skip (i := 16) rfl (by kernel_rfl) (by kernel_rfl) (by kernel_rfl) (fun _ _ _ h => h) (by with_unfolding_all rfl) (by assumption) ?_
        (try simp only [Act.put, List.setIfInBounds_toArray, List.set_cons_zero, List.set_cons_succ])
        refine rg_skip (i := 17) rfl (by kernel_rfl) (by kernel_rfl) (by kernel_rfl) (fun _ _ _ h => h) (by with_unfolding_all rfl) (by assumption) ?_
        (try simp only [Act.put, List.setIfInBounds_toArray, List.set_cons_zero, List.set_cons_succ])
        refine rg_skip (i := 18) rfl (by kernel_rfl) (by kernel_rfl) (by kernel_rfl) (fun _ _ _ h => h) (by with_unfolding_all rfl) (by assumption) ?_
        (try simp only [Act.put, List.setIfInBounds_toArray, List.set_cons_zero, List.set_cons_succ])
        refine rg_skip (i := 19) rfl (by kernel_rfl) (by kernel_rfl) (by kernel_rfl) (fun _ _ _ h => h) (by with_unfolding_all rfl) (by assumption) ?_
        (try simp only [Act.put, List.setIfInBounds_toArray, List.set_cons_zero, List.set_cons_succ])
        refine rg_skip (i := 20) rfl (by kernel_rfl) (by kernel_rfl) (by kernel_rfl) (fun _ _ _ h => h) (by with_unfolding_all rfl) (by assumption) ?_
        (try simp only [Act.put, List.setIfInBounds_toArray, List.set_cons_zero, List.set_cons_succ])
        refine rg_skip (i := 21) rfl (by kernel_rfl) (by kernel_rfl) (by kernel_rfl) (fun _ _ _ h => h) (by with_unfolding_all rfl) (by assumption) ?_
        (try simp only [Act.put, List.setIfInBounds_toArray, List.set_cons_zero, List.set_cons_succ])
        refine rg_skip (i := 22) rfl (by kernel_rfl) (by kernel_rfl) (by kernel_rfl) (fun _ _ _ h => h) (by with_unfolding_all rfl) (by assumption) ?_
        (try simp only [Act.put, List.setIfInBounds_toArray, List.set_cons_zero, List.set_cons_succ])
        refine rg_skip (i := 23) rfl (by kernel_rfl) (by kernel_rfl) (by kernel_rfl) (fun _ _ _ h => h) (by with_unfolding_all rfl) (by assumption) ?_
        (try simp only [Act.put, List.setIfInBounds_toArray, List.set_cons_zero, List.set_cons_succ])
        refine rg_skip (i := 24) rfl (by kernel_rfl) (by kernel_rfl) (by kernel_rfl) (fun _ _ _ h => h) (by with_unfolding_all rfl) (by assumption) ?_
        (try simp only [Act.put, List.setIfInBounds_toArray, List.set_cons_zero, List.set_cons_succ])
        refine rg_skip (i := 25) rfl (by kernel_rfl) (by kernel_rfl) (by kernel_rfl) (fun _ _ _ h => h) (by with_unfolding_all rfl) (by assumption) ?_
        (try simp only [Act.put, List.setIfInBounds_toArray, List.set_cons_zero, List.set_cons_succ])
        refine rg_take (i := 26) (v := ?_) rfl (by kernel_rfl) (by kernel_rfl) (by kernel_rfl) (fun _ _ _ h => h) (by with_unfolding_all rfl) (by assumption) ?_ ?_
        rotate_left
        · intro w hSw; (first | (go_simp; done) | (go_simp; with_reducible rfl) | (go_simp; rfl))
        (try simp only [Act.put, List.setIfInBounds_toArray, List.set_cons_zero, List.set_cons_succ])
        refine rg_take (i := 27) (v := ?_) rfl (by kernel_rfl) (by kernel_rfl) (by kernel_rfl) (fun _ _ _ h => h) (by with_unfolding_all rfl) (by assumption) ?_ ?_
        rotate_left
        · intro w hSw; (first | (go_simp; done) | (go_simp; with_reducible rfl) | (go_simp; rfl))
        (try simp only [Act.put, List.setIfInBounds_toArray, List.set_cons_zero, List.set_cons_succ])
        refine rg_done (by kernel_rfl) ?_
        go_wp2_with fail
        go_roundw
        case rel => exact ⟨k + 1, x, by go_num, by omega, by omega, by omega, fun _ => by rw [Nat.add_sub_cancel]; exact Hx1.out, hg.out, by first | assumption | (apply Sat.drew; assumption)⟩
        case measure => simp [intOf]; omega
      have d2 : decide ((0 : Int) < (k : Int)) = true := by simp; omega
      have d2' : decide (0 < k) = true := by simp; omega
      obtain ⟨j, hj⟩ : ∃ j, j = k - 1 := ⟨_, rfl⟩
      have hjn : j < n := by omega
      have hlk := hlk (by omega)
      rw [← hj] at hlk
      have cl := hA.elt (I8_at xs j last hlk)
      have i2 : IntKind.i64.wrap ((k : Int) - 1) = (j : Int) := by rw [show (k : Int) - 1 = (j : Int) from by omega]; exact IntWalk.i64_in _ (by omega)
      have i3 : (0 : Int) ≤ (j : Int) := by omega
      have i4 : (j : Int) < (n : Int) := by omega
      clear hlk hl0 hj
      by_cases hlx : x ≤ last
      · have d3 : decide (x ≤ last) = true := by simp [hlx]
        have hb := bad (by omega)
        clear bad good
        go_wp2_with fail
        refine rg_start rfl hs2 (fun wr0 hsr0 => ?_)
        refine rg_take (i := 0) (v := ?_) rfl (by kernel_rfl) (by kernel_rfl) (by kernel_rfl) (fun _ _ _ h => h) (by with_unfolding_all rfl) (by assumption) ?_ ?_
        rotate_left
        · intro w hSw; (first | (go_simp; done) | (go_simp; with_reducible rfl) | (go_simp; rfl))
        (try simp only [Act.put, List.setIfInBounds_toArray, List.set_cons_zero, List.set_cons_succ])
        refine rg_take (i := 1) (v := ?_) rfl (by kernel_rfl) (by kernel_rfl) (by kernel_rfl) (fun _ _ _ h => h) (by with_unfolding_all rfl) (by assumption) ?_ ?_
        rotate_left
        · intro w hSw; (first | (go_simp; done) | (go_simp; with_reducible rfl) | (go_simp; rfl))
        (try simp only [Act.put, List.setIfInBounds_toArray, List.set_cons_zero, List.set_cons_succ])
        refine rg_take (i := 2) (v := ?_) rfl (by kernel_rfl) (by kernel_rfl) (by kernel_rfl) (fun _ _ _ h => h) (by with_unfolding_all rfl) (by assumption) ?_ ?_
        rotate_left
        · intro w hSw; (first | (go_simp; done) | (go_simp; with_reducible rfl) | (go_simp; rfl))
        (try simp only [Act.put, List.setIfInBounds_toArray, List.set_cons_zero, List.set_cons_succ])
        refine rg_take (i := 3) (v := ?_) rfl (by kernel_rfl) (by kernel_rfl) (by kernel_rfl) (fun _ _ _ h => h) (by with_unfolding_all rfl) (by assumption) ?_ ?_
        rotate_left
        · intro w hSw; ((with_reducible apply yl_load); assumption; rfl; (repeat (first | assumption | ((with_reducible apply Cl.blkL); exact rfl) | with_reducible apply Cl.cons)); rfl)
        (try simp only [Act.put, List.setIfInBounds_toArray, List.set_cons_zero, List.set_cons_succ])
        refine rg_take (i := 4) (v := ?_) rfl (by kernel_rfl) (by kernel_rfl) (by kernel_rfl) (fun _ _ _ h => h) (by with_unfolding_all rfl) (by assumption) ?_ ?_
        rotate_left
        · intro w hSw; (first | (go_simp; done) | (go_simp; with_reducible rfl) | (go_simp; rfl))
        (try simp only [Act.put, List.setIfInBounds_toArray, List.set_cons_zero, List.set_cons_succ])
        refine rg_take (i := 5) (v := ?_) rfl (by kernel_rfl) (by kernel_rfl) (by kernel_rfl) (fun _ _ _ h => h) (by with_unfolding_all rfl) (by assumption) ?_ ?_
        rotate_left
        · intro w hSw; (first | (go_simp; done) | (go_simp; with_reducible rfl) | (go_simp; rfl))
        (try simp only [Act.put, List.setIfInBounds_toArray, List.set_cons_zero, List.set_cons_succ])
        refine rg_take (i := 6) (v := ?_) rfl (by kernel_rfl) (by kernel_rfl) (by kernel_rfl) (fun _ _ _ h => h) (by with_unfolding_all rfl) (by assumption) ?_ ?_
        rotate_left
        · intro w hSw; (first | (go_simp; done) | (go_simp; with_reducible rfl) | (go_simp; rfl))
        (try simp only [Act.put, List.setIfInBounds_toArray, List.set_cons_zero, List.set_cons_succ])
        refine rg_take (i := 7) (v := ?_) rfl (by kernel_rfl) (by kernel_rfl) (by kernel_rfl) (fun _ _ _ h => h) (by with_unfolding_all rfl) (by assumption) ?_ ?_
        rotate_left
        · intro w hSw; (first | (go_simp; done) | (go_simp; with_reducible rfl) | (go_simp; rfl))
        (try simp only [Act.put, List.setIfInBounds_toArray, List.set_cons_zero, List.set_cons_succ])
        refine rg_take (i := 8) (v := ?_) rfl (by kernel_rfl) (by kernel_rfl) (by kernel_rfl) (fun _ _ _ h => h) (by with_unfolding_all rfl) (by assumption) ?_ ?_
        rotate_left
        · intro w hSw; (first | (go_simp; done) | (go_simp; with_reducible rfl) | (go_simp; rfl))
        (try simp only [Act.put, List.setIfInBounds_toArray, List.set_cons_zero, List.set_cons_succ])
        refine rg_take (i := 9) (v := ?_) rfl (by kernel_rfl) (by kernel_rfl) (by kernel_rfl) (fun _ _ _ h => h) (by with_unfolding_all rfl) (by assumption) ?_ ?_
        rotate_left
        · intro w hSw; ((with_reducible apply yl_load); assumption; rfl; (repeat (first | assumption | ((with_reducible apply Cl.blkL); exact rfl) | with_reducible apply Cl.cons)); rfl)
        (try simp only [Act.put, List.setIfInBounds_toArray, List.set_cons_zero, List.set_cons_succ])
        refine rg_take (i := 10) (v := ?_) rfl (by kernel_rfl) (by kernel_rfl) (by kernel_rfl) (fun _ _ _ h => h) (by with_unfolding_all rfl) (by assumption) ?_ ?_
        rotate_left
        · intro w hSw; (first | (go_simp; done) | (go_simp; with_reducible rfl) | (go_simp; rfl))
        (try simp only [Act.put, List.setIfInBounds_toArray, List.set_cons_zero, List.set_cons_succ])
        refine rg_take (i := 11) (v := ?_) rfl (by kernel_rfl) (by kernel_rfl) (by kernel_rfl) (fun _ _ _ h => h) (by with_unfolding_all rfl) (by assumption) ?_ ?_
        rotate_left
        · intro w hSw; (first | (go_simp; done) | (go_simp; with_reducible rfl) | (go_simp; rfl))
        (try simp only [Act.put, List.setIfInBounds_toArray, List.set_cons_zero, List.set_cons_succ])
        refine rg_take (i := 12) (v := ?_) rfl (by kernel_rfl) (by kernel_rfl) (by kernel_rfl) (fun _ _ _ h => h) (by with_unfolding_all rfl) (by assumption) ?_ ?_
        rotate_left
        · intro w hSw; (first | (go_simp; done) | (go_simp; with_reducible rfl) | (go_simp; rfl))
        (try simp only [Act.put, List.setIfInBounds_toArray, List.set_cons_zero, List.set_cons_succ])
        refine rg_take (i := 13) (v := ?_) rfl (by kernel_rfl) (by kernel_rfl) (by kernel_rfl) (fun _ _ _ h => h) (by with_unfolding_all rfl) (by assumption) ?_ ?_
        rotate_left
        · intro w hSw; (first | (go_simp; done) | (go_simp; with_reducible rfl) | (go_simp; rfl))
        (try simp only [Act.put, List.setIfInBounds_toArray, List.set_cons_zero, List.set_cons_succ])
        refine rg_take (i := 14) (v := ?_) rfl (by kernel_rfl) (by kernel_rfl) (by kernel_rfl) (fun _ _ _ h => h) (by with_unfolding_all rfl) (by assumption) ?_ ?_
        rotate_left
        · intro w hSw; (first | (go_simp; done) | (go_simp; with_reducible rfl) | (go_simp; rfl))
        (try simp only [Act.put, List.setIfInBounds_toArray, List.set_cons_zero, List.set_cons_succ])
        refine rg_take (i := 15) (v := ?_) rfl (by kernel_rfl) (by kernel_rfl) (by kernel_rfl) (fun _ _ _ h => h) (by with_unfolding_all rfl) (by assumption) ?_ ?_
        rotate_left
        · intro w hSw; (first | (go_simp; done) | (go_simp; with_reducible rfl) | (go_simp; rfl))
        (try simp only [Act.put, List.setIfInBounds_toArray, List.set_cons_zero, List.set_cons_succ])
        refine rg_take (i := 16) (v := ?_) rfl (by kernel_rfl) (by kernel_rfl) (by kernel_rfl) (fun _ _ _ h => h) (by with_unfolding_all rfl) (by assumption) ?_ ?_
        rotate_left
        · intro w hSw; (first | (go_simp; done) | (go_simp; with_reducible rfl) | (go_simp; rfl))
        (try simp only [Act.put, List.setIfInBounds_toArray, List.set_cons_zero, List.set_cons_succ])
        refine rg_take (i := 17) (v := ?_) rfl (by kernel_rfl) (by kernel_rfl) (by kernel_rfl) (fun _ _ _ h => h) (by with_unfolding_all rfl) (by assumption) ?_ ?_
        rotate_left
        · intro w hSw; (first | (go_simp; done) | (go_simp; with_reducible rfl) | (go_simp; rfl))
        (try simp only [Act.put, List.setIfInBounds_toArray, List.set_cons_zero, List.set_cons_succ])
        refine rg_take (i := 18) (v := ?_) rfl (by kernel_rfl) (by kernel_rfl) (by kernel_rfl) (fun _ _ _ h => h) (by with_unfolding_all rfl) (by assumption) ?_ ?_
        rotate_left
        · intro w hSw; (first | (go_simp; done) | (go_simp; with_reducible rfl) | (go_simp; rfl))
        (try simp only [Act.put, List.setIfInBounds_toArray, List.set_cons_zero, List.set_cons_succ])
        refine rg_take (i := 19) (v := ?_) rfl (by kernel_rfl) (by kernel_rfl) (by kernel_rfl) (fun _ _ _ h => h) (by with_unfolding_all rfl) (by assumption) ?_ ?_
        rotate_left
        · intro w hSw; ((with_reducible apply yl_load); assumption; rfl; (repeat (first | assumption | ((with_reducible apply Cl.blkL); exact rfl) | with_reducible apply Cl.cons)); rfl)
        (try simp only [Act.put, List.setIfInBounds_toArray, List.set_cons_zero, List.set_cons_succ])
        refine rg_take (i := 20) (v := ?_) rfl (by kernel_rfl) (by kernel_rfl) (by kernel_rfl) (fun _ _ _ h => h) (by with_unfolding_all rfl) (by assumption) ?_ ?_
        rotate_left
        · intro w hSw; (first | (go_simp; done) | (go_simp; with_reducible rfl) | (go_simp; rfl))
        (try simp only [Act.put, List.setIfInBounds_toArray, List.set_cons_zero, List.set_cons_succ])
        refine rg_take (i := 21) (v := ?_) rfl (by kernel_rfl) (by kernel_rfl) (by kernel_rfl) (fun _ _ _ h => h) (by with_unfolding_all rfl) (by assumption) ?_ ?_
        rotate_left
        · intro w hSw; (first | (go_simp; done) | (go_simp; with_reducible rfl) | (go_simp; rfl))
        (try simp only [Act.put, List.setIfInBounds_toArray, List.set_cons_zero, List.set_cons_succ])
        refine rg_take (i := 22) (v := ?_) rfl (by kernel_rfl) (by kernel_rfl) (by kernel_rfl) (fun _ _ _ h => h) (by with_unfolding_all rfl) (by assumption) ?_ ?_
        rotate_left
        · intro w hSw; (first | (go_simp; done) | (go_simp; with_reducible rfl) | (go_simp; rfl))
        (try simp only [Act.put, List.setIfInBounds_toArray, List.set_cons_zero, List.set_cons_succ])
        refine rg_take (i := 23) (v := ?_) rfl (by kernel_rfl) (by kernel_rfl) (by kernel_rfl) (fun _ _ _ h => h) (by with_unfolding_all rfl) (by assumption) ?_ ?_
        rotate_left
        · intro w hSw; (first | (go_simp; done) | (go_simp; with_reducible rfl) | (go_simp; rfl))
        (try simp only [Act.put, List.setIfInBounds_toArray, List.set_cons_zero, List.set_cons_succ])
        refine rg_take (i := 24) (v := ?_) rfl (by kernel_rfl) (by kernel_rfl) (by kernel_rfl) (fun _ _ _ h => h) (by with_unfolding_all rfl) (by assumption) ?_ ?_
        rotate_left
        · intro w hSw; ((with_reducible apply yl_load); assumption; rfl; (repeat (first | assumption | ((with_reducible apply Cl.blkL); exact rfl) | with_reducible apply Cl.cons)); rfl)
        (try simp only [Act.put, List.setIfInBounds_toArray, List.set_cons_zero, List.set_cons_succ])
        refine rg_take (i := 25) (v := ?_) rfl (by kernel_rfl) (by kernel_rfl) (by kernel_rfl) (fun _ _ _ h => h) (by with_unfolding_all rfl) (by assumption) ?_ ?_
        rotate_left
        · intro w hSw; (first | (go_simp; done) | (go_simp; with_reducible rfl) | (go_simp; rfl))
        (try simp only [Act.put, List.setIfInBounds_toArray, List.set_cons_zero, List.set_cons_succ])
        refine rg_take (i := 26) (v := ?_) rfl (by kernel_rfl) (by kernel_rfl) (by kernel_rfl) (fun _ _ _ h => h) (by with_unfolding_all rfl) (by assumption) ?_ ?_
        rotate_left
        · intro w hSw; (first | (go_simp; done) | (go_simp; with_reducible rfl) | (go_simp; rfl))
        (try simp only [Act.put, List.setIfInBounds_toArray, List.set_cons_zero, List.set_cons_succ])
        refine rg_take (i := 27) (v := ?_) rfl (by kernel_rfl) (by kernel_rfl) (by kernel_rfl) (fun _ _ _ h => h) (by with_unfolding_all rfl) (by assumption) ?_ ?_
        rotate_left
        · intro w hSw; (first | (go_simp; done) | (go_simp; with_reducible rfl) | (go_simp; rfl))
        (try simp only [Act.put, List.setIfInBounds_toArray, List.set_cons_zero, List.set_cons_succ])
        refine rg_done (by kernel_rfl) ?_
        go_wp2_with fail
        go_ret
        exact ⟨by rw [hb.out]; rfl, by first | assumption | (apply Sat.drew; assumption)⟩
      · have d3 : decide (x ≤ last) = false := by simp; omega
        have hg := good (by omega)
        clear bad good
        go_wp2_with fail
        refine rg_start rfl hs2 (fun wr0 hsr0 => ?_)
        refine rg_take (i := 0) (v := ?_) rfl (by kernel_rfl) (by kernel_rfl) (by kernel_rfl) (fun _ _ _ h => h) (by with_unfolding_all rfl) (by assumption) ?_ ?_
        rotate_left
        · intro w hSw; (first | (go_simp; done) | (go_simp; with_reducible rfl) | (go_simp; rfl))
        (try simp only [Act.put, List.setIfInBounds_toArray, List.set_cons_zero, List.set_cons_succ])
        refine rg_take (i := 1) (v := ?_) rfl (by kernel_rfl) (by kernel_rfl) (by kernel_rfl) (fun _ _ _ h => h) (by with_unfolding_all rfl) (by assumption) ?_ ?_
        rotate_left
        · intro w hSw; (first | (go_simp; done) | (go_simp; with_reducible rfl) | (go_simp; rfl))
        (try simp only [Act.put, List.setIfInBounds_toArray, List.set_cons_zero, List.set_cons_succ])
        refine rg_take (i := 2) (v := ?_) rfl (by kernel_rfl) (by kernel_rfl) (by kernel_rfl) (fun _ _ _ h => h) (by with_unfolding_all rfl) (by assumption) ?_ ?_
        rotate_left
        · intro w hSw; (first | (go_simp; done) | (go_simp; with_reducible rfl) | (go_simp; rfl))
        (try simp only [Act.put, List.setIfInBounds_toArray, List.set_cons_zero, List.set_cons_succ])
        refine rg_take (i := 3) (v := ?_) rfl (by kernel_rfl) (by kernel_rfl) (by kernel_rfl) (fun _ _ _ h => h) (by with_unfolding_all rfl) (by assumption) ?_ ?_
        rotate_left
        · intro w hSw; ((with_reducible apply yl_load); assumption; rfl; (repeat (first | assumption | ((with_reducible apply Cl.blkL); exact rfl) | with_reducible apply Cl.cons)); rfl)
        (try simp only [Act.put, List.setIfInBounds_toArray, List.set_cons_zero, List.set_cons_succ])
        refine rg_take (i := 4) (v := ?_) rfl (by kernel_rfl) (by kernel_rfl) (by kernel_rfl) (fun _ _ _ h => h) (by with_unfolding_all rfl) (by assumption) ?_ ?_
        rotate_left
        · intro w hSw; (first | (go_simp; done) | (go_simp; with_reducible rfl) | (go_simp; rfl))
        (try simp only [Act.put, List.setIfInBounds_toArray, List.set_cons_zero, List.set_cons_succ])
        refine rg_take (i := 5) (v := ?_) rfl (by kernel_rfl) (by kernel_rfl) (by kernel_rfl) (fun _ _ _ h => h) (by with_unfolding_all rfl) (by assumption) ?_ ?_
        rotate_left
        · intro w hSw; (first | (go_simp; done) | (go_simp; with_reducible rfl) | (go_simp; rfl))
        (try simp only [Act.put, List.setIfInBounds_toArray, List.set_cons_zero, List.set_cons_succ])
        refine rg_take (i := 6) (v := ?_) rfl (by kernel_rfl) (by kernel_rfl) (by kernel_rfl) (fun _ _ _ h => h) (by with_unfolding_all rfl) (by assumption) ?_ ?_
        rotate_left
        · intro w hSw; (first | (go_simp; done) | (go_simp; with_reducible rfl) | (go_simp; rfl))
        (try simp only [Act.put, List.setIfInBounds_toArray, List.set_cons_zero, List.set_cons_succ])
        refine rg_take (i := 7) (v := ?_) rfl (by kernel_rfl) (by kernel_rfl) (by kernel_rfl) (fun _ _ _ h => h) (by with_unfolding_all rfl) (by assumption) ?_ ?_
        rotate_left
        · intro w hSw; (first | (go_simp; done) | (go_simp; with_reducible rfl) | (go_simp; rfl))
        (try simp only [Act.put, List.setIfInBounds_toArray, List.set_cons_zero, List.set_cons_succ])
        refine rg_take (i := 8) (v := ?_) rfl (by kernel_rfl) (by kernel_rfl) (by kernel_rfl) (fun _ _ _ h => h) (by with_unfolding_all rfl) (by assumption) ?_ ?_
        rotate_left
        · intro w hSw; (first | (go_simp; done) | (go_simp; with_reducible rfl) | (go_simp; rfl))
        (try simp only [Act.put, List.setIfInBounds_toArray, List.set_cons_zero, List.set_cons_succ])
        refine rg_take (i := 9) (v := ?_) rfl (by kernel_rfl) (by kernel_rfl) (by kernel_rfl) (fun _ _ _ h => h) (by with_unfolding_all rfl) (by assumption) ?_ ?_
        rotate_left
        · intro w hSw; ((with_reducible apply yl_load); assumption; rfl; (repeat (first | assumption | ((with_reducible apply Cl.blkL); exact rfl) | with_reducible apply Cl.cons)); rfl)
        (try simp only [Act.put, List.setIfInBounds_toArray, List.set_cons_zero, List.set_cons_succ])
        refine rg_take (i := 10) (v := ?_) rfl (by kernel_rfl) (by kernel_rfl) (by kernel_rfl) (fun _ _ _ h => h) (by with_unfolding_all rfl) (by assumption) ?_ ?_
        rotate_left
        · intro w hSw; (first | (go_simp; done) | (go_simp; with_reducible rfl) | (go_simp; rfl))
        (try simp only [Act.put, List.setIfInBounds_toArray, List.set_cons_zero, List.set_cons_succ])
        refine rg_take (i := 11) (v := ?_) rfl (by kernel_rfl) (by kernel_rfl) (by kernel_rfl) (fun _ _ _ h => h) (by with_unfolding_all rfl) (by assumption) ?_ ?_
        rotate_left
        · intro w hSw; (first | (go_simp; done) | (go_simp; with_reducible rfl) | (go_simp; rfl))
        (try simp only [Act.put, List.setIfInBounds_toArray, List.set_cons_zero, List.set_cons_succ])
        refine rg_take (i := 12) (v := ?_) rfl (by kernel_rfl) (by kernel_rfl) (by kernel_rfl) (fun _ _ _ h => h) (by with_unfolding_all rfl) (by assumption) ?_ ?_
        rotate_left
        · intro w hSw; (first | (go_simp; done) | (go_simp; with_reducible rfl) | (go_simp; rfl))
        (try simp only [Act.put, List.setIfInBounds_toArray, List.set_cons_zero, List.set_cons_succ])
        refine rg_take (i := 13) (v := ?_) rfl (by kernel_rfl) (by kernel_rfl) (by kernel_rfl) (fun _ _ _ h => h) (by with_unfolding_all rfl) (by assumption) ?_ ?_
        rotate_left
        · intro w hSw; (first | (go_simp; done) | (go_simp; with_reducible rfl) | (go_simp; rfl))
        (try simp only [Act.put, List.setIfInBounds_toArray, List.set_cons_zero, List.set_cons_succ])
        refine rg_take (i := 14) (v := ?_) rfl (by kernel_rfl) (by kernel_rfl) (by kernel_rfl) (fun _ _ _ h => h) (by with_unfolding_all rfl) (by assumption) ?_ ?_
        rotate_left
        · intro w hSw; (first | (go_simp; done) | (go_simp; with_reducible rfl) | (go_simp; rfl))
        (try simp only [Act.put, List.setIfInBounds_toArray, List.set_cons_zero, List.set_cons_succ])
        refine rg_take (i := 15) (v := ?_) rfl (by kernel_rfl) (by kernel_rfl) (by kernel_rfl) (fun _ _ _ h => h) (by with_unfolding_all rfl) (by assumption) ?_ ?_
        rotate_left
        · intro w hSw; (first | (go_simp; done) | (go_simp; with_reducible rfl) | (go_simp; rfl))
        (try simp only [Act.put, List.setIfInBounds_toArray, List.set_cons_zero, List.set_cons_succ])
        refine rg_take (i := 16) (v := ?_) rfl (by kernel_rfl) (by kernel_rfl) (by kernel_rfl) (fun _ _ _ h => h) (by with_unfolding_all rfl) (by assumption) ?_ ?_
        rotate_left
        · intro w hSw; (first | (go_simp; done) | (go_simp; with_reducible rfl) | (go_simp; rfl))
        (try simp only [Act.put, List.setIfInBounds_toArray, List.set_cons_zero, List.set_cons_succ])
        refine rg_take (i := 17) (v := ?_) rfl (by kernel_rfl) (by kernel_rfl) (by kernel_rfl) (fun _ _ _ h => h) (by with_unfolding_all rfl) (by assumption) ?_ ?_
        rotate_left
        · intro w hSw; (first | (go_simp; done) | (go_simp; with_reducible rfl) | (go_simp; rfl))
        (try simp only [Act.put, List.setIfInBounds_toArray, List.set_cons_zero, List.set_cons_succ])
        refine rg_take (i := 18) (v := ?_) rfl (by kernel_rfl) (by kernel_rfl) (by kernel_rfl) (fun _ _ _ h => h) (by with_unfolding_all rfl) (by assumption) ?_ ?_
        rotate_left
        · intro w hSw; (first | (go_simp; done) | (go_simp; with_reducible rfl) | (go_simp; rfl))
        (try simp only [Act.put, List.setIfInBounds_toArray, List.set_cons_zero, List.set_cons_succ])
        refine rg_take (i := 19) (v := ?_) rfl (by kernel_rfl) (by kernel_rfl) (by kernel_rfl) (fun _ _ _ h => h) (by with_unfolding_all rfl) (by assumption) ?_ ?_
        rotate_left
        · intro w hSw; ((with_reducible apply yl_load); assumption; rfl; (repeat (first | assumption | ((with_reducible apply Cl.blkL); exact rfl) | with_reducible apply Cl.cons)); rfl)
        (try simp only [Act.put, List.setIfInBounds_toArray, List.set_cons_zero, List.set_cons_succ])
        refine rg_take (i := 20) (v := ?_) rfl (by kernel_rfl) (by kernel_rfl) (by kernel_rfl) (fun _ _ _ h => h) (by with_unfolding_all rfl) (by assumption) ?_ ?_
        rotate_left
        · intro w hSw; (first | (go_simp; done) | (go_simp; with_reducible rfl) | (go_simp; rfl))
        (try simp only [Act.put, List.setIfInBounds_toArray, List.set_cons_zero, List.set_cons_succ])
        refine rg_take (i := 21) (v := ?_) rfl (by kernel_rfl) (by kernel_rfl) (by kernel_rfl) (fun _ _ _ h => h) (by with_unfolding_all rfl) (by assumption) ?_ ?_
        rotate_left
        · intro w hSw; (first | (go_simp; done) | (go_simp; with_reducible rfl) | (go_simp; rfl))
        (try simp only [Act.put, List.setIfInBounds_toArray, List.set_cons_zero, List.set_cons_succ])
        refine rg_take (i := 22) (v := ?_) rfl (by kernel_rfl) (by kernel_rfl) (by kernel_rfl) (fun _ _ _ h => h) (by with_unfolding_all rfl) (by assumption) ?_ ?_
        rotate_left
        · intro w hSw; (first | (go_simp; done) | (go_simp; with_reducible rfl) | (go_simp; rfl))
        (try simp only [Act.put, List.setIfInBounds_toArray, List.set_cons_zero, List.set_cons_succ])
        refine rg_take (i := 23) (v := ?_) rfl (by kernel_rfl) (by kernel_rfl) (by kernel_rfl) (fun _ _ _ h => h) (by with_unfolding_all rfl) (by assumption) ?_ ?_
        rotate_left
        · intro w hSw; (first | (go_simp; done) | (go_simp; with_reducible rfl) | (go_simp; rfl))
        (try simp only [Act.put, List.setIfInBounds_toArray, List.set_cons_zero, List.set_cons_succ])
        refine rg_take (i := 24) (v := ?_) rfl (by kernel_rfl) (by kernel_rfl) (by kernel_rfl) (fun _ _ _ h => h) (by with_unfolding_all rfl) (by assumption) ?_ ?_
        rotate_left
        · intro w hSw; ((with_reducible apply yl_load); assumption; rfl; (repeat (first | assumption | ((with_reducible apply Cl.blkL); exact rfl) | with_reducible apply Cl.cons)); rfl)
        (try simp only [Act.put, List.setIfInBounds_toArray, List.set_cons_zero, List.set_cons_succ])
        refine rg_take (i := 25) (v := ?_) rfl (by kernel_rfl) (by kernel_rfl) (by kernel_rfl) (fun _ _ _ h => h) (by with_unfolding_all rfl) (by assumption) ?_ ?_
        rotate_left
        · intro w hSw; (first | (go_simp; done) | (go_simp; with_reducible rfl) | (go_simp; rfl))
        (try simp only [Act.put, List.setIfInBounds_toArray, List.set_cons_zero, List.set_cons_succ])
        refine rg_take (i := 26) (v := ?_) rfl (by kernel_rfl) (by kernel_rfl) (by kernel_rfl) (fun _ _ _ h => h) (by with_unfolding_all rfl) (by assumption) ?_ ?_
        rotate_left
        · intro w hSw; (first | (go_simp; done) | (go_simp; with_reducible rfl) | (go_simp; rfl))
        (try simp only [Act.put, List.setIfInBounds_toArray, List.set_cons_zero, List.set_cons_succ])
        refine rg_take (i := 27) (v := ?_) rfl (by kernel_rfl) (by kernel_rfl) (by kernel_rfl) (fun _ _ _ h => h) (by with_unfolding_all rfl) (by assumption) ?_ ?_
        rotate_left
        · intro w hSw; (first | (go_simp; done) | (go_simp; with_reducible rfl) | (go_simp; rfl))
        (try simp only [Act.put, List.setIfInBounds_toArray, List.set_cons_zero, List.set_cons_succ])
        refine rg_done (by kernel_rfl) ?_
        go_wp2_with fail
        go_roundw
        case rel => exact ⟨k + 1, x, by go_num, by omega, by omega, by omega, fun _ => by rw [Nat.add_sub_cancel]; exact Hx1.out, hg.out, by first | assumption | (apply Sat.drew; assumption)⟩
        case measure => simp [intOf]; omega
    · obtain rfl : k = n := by omega
      have Hok : Hid (okServers xs = decide (1 ≤ k ∧ k ≤ 7)) := by
        unfold Hid okServers
        rw [he, List.drop_of_length_le (by have := hx.out; omega)]
        have := hx.out
        rw [← this]; simp [rise]
      clear he hl0 hlk
      by_cases h1 : 1 ≤ k
      · by_cases h7 : k ≤ 7
        · have d4 : decide (1 ≤ k ∧ k ≤ 7) = true := by simp [h1, h7]
          have Hd := Hid.mk' (Hok.out.trans d4)
          have d5 : decide ((k : Int) ≤ 7) = true := by simp; omega
          clear d4
          go_wp2_with fail
          go_ret
          exact ⟨by rw [Hd.out]; rfl, hs2⟩
        · have d4 : decide (1 ≤ k ∧ k ≤ 7) = false := by simp; omega
          have Hd := Hid.mk' (Hok.out.trans d4)
          have d5 : decide ((k : Int) ≤ 7) = false := by simp; omega
          clear d4
          go_wp2_with fail
          go_ret
          exact ⟨by rw [Hd.out]; rfl, hs2⟩
      · have d4 : decide (1 ≤ k ∧ k ≤ 7) = false := by simp; omega
        have Hd := Hid.mk' (Hok.out.trans d4)
        clear d4
        go_wp2_with fail
        go_ret
        exact ⟨by rw [Hd.out]; rfl, hs2⟩
end Go.Proofs.Ytcpcdhlfdabbnaa

/-
  Lists of servers: ServersBytes, PutServers of the document, GetServers.
-/
namespace Go.Proofs.Ytcpcdhlfdabbnaa
open Go Go.RowKit Sl Go.Shelf

def nums (xs : List Int) (k : Nat) : List UInt8 := ((xs.take k).map fun n => num n.toNat).flatten
theorem nums_succ (xs : List Int) (k : Nat) (x : Int) (h : xs[k]? = some x) : nums xs (k + 1) = nums xs k ++ num x.toNat := by
  unfold nums; rw [List.take_add_one, h]; simp

theorem nums_all (xs : List Int) (k : Nat) (h : xs.length ≤ k) : num xs.length ++ nums xs k = srvBytes xs := by
  unfold nums; rw [List.take_of_length_le h]; rfl

theorem rdMany_succ (k : Nat) : ∀ e l, rdMany (k + 1) e l = ((rdMany k e l).1 ++ [(rdNumber (rdMany k e l).2.1 (rdMany k e l).2.2).1], (rdNumber (rdMany k e l).2.1 (rdMany k e l).2.2).2) := by
  induction k with
  | zero => intro e l; rfl
  | succ k ih =>
    intro e l
    have h := ih (rdNumber e l).2.1 (rdNumber e l).2.2
    show ((rdNumber e l).1 :: (rdMany (k + 1) _ _).1, (rdMany (k + 1) _ _).2) = _
    rw [h]
    rfl

/-- It has returned the numbers x.1 and the error x.2. -/
def RetI (w0 : World) (L : List HP) (x : List Int × Int) (e : Ending) (w' : World) : Prop := ∃ A c n, Hid (n = x.1.length) ∧ e = .returned (.tuple #[.slice A n c, .int .i64 x.2]) ∧ Sat w0 w' (own 3 1 A c n (I8 x.1) :: L)

set_option maxHeartbeats 2000000 in
theorem getServers_spec {w0 w : World} {L : List HP} {A : Option Addr} {c : Nat} (b : List UInt8) (hl : b.length ≤ 4294967296) (hs : Sat w0 w L) (hR : Rd w0 L A b.length 1 (B8 b)) :
    Calls Try.prog 58 #[.slice A b.length c] w (RetI w0 L (getServers b)) := by
  obtain ⟨⟨v, e, r⟩, hx⟩ : ∃ x, rdNumber 0 b = x := ⟨_, rfl⟩
  obtain ⟨hv0, _, hrl, hv48⟩ := rdNumber_ok hx
  have hN : ∀ {w : World} {L : List HP} {buf : HP} {p : Nat}, Sat w0 w (Rd1 buf p 0 b :: buf :: L) → Calls Try.prog 73 #[.pointer (some ⟨p, 0, none⟩)] w (RetN w0 L buf p (v, e, r)) := fun hs => by
    have := number_read 0 b hl hs
    rwa [hx] at this
  obtain ⟨X, hX⟩ : ∃ X, getServers b = X := ⟨_, rfl⟩
  rw [hX]
  by_cases h7 : v ≤ 7
  · obtain ⟨m, rfl⟩ := Int.eq_ofNat_of_zero_le hv0
    have hm7 : m ≤ 7 := by omega
    have HX : Hid ((if okServers (rdMany m e r).1 = true ∧ srvBytes (rdMany m e r).1 = b then ((rdMany m e r).1, 0) else ([], 21)) = X) := by
      unfold Hid; rw [← hX]; unfold getServers; rw [hx]; simp only [Int.toNat_natCast]; rw [Nat.min_eq_left hm7]
    clear hx hX
    go_enter Try.func58, Try.ntmps58
    go_wp2_with (first | (go_at_call 72; refine (new_spec b hl hs hR).mono ?_; rintro e' w2 ⟨p, bx, rfl, hs2⟩) | (go_at_call 73; refine (hN (by assumption)).mono ?_; rintro e' w3 ⟨rfl, hs3⟩; simp only at hs3) | (first | ((with_reducible apply wl_unguard); rfl) | ((with_reducible apply wl_buildSlice); assumption; rfl; (go_simp; rfl); (simp [Value.cells]); omega; intro b w1 hs1) | ((with_reducible apply wl_append); go_must (assumption; rfl; rfl; (repeat (first | exact Out.here _ | apply Out.there)); (repeat (first | assumption | exact Rd.own | exact Rd.nil | apply Rd.cons)); (first | exact B8_one _ | exact I8_one _ | (simp [Value.oneCell'])); (first | omega | (simp only [maxLen]; omega)); omega; intro A1 c1 w1 hs1 hc1; (try ((refine hs1.own_elim ?_ ?_); omega; rintro g1 rfl)); try simp only [Nat.zero_add, List.nil_append] at hs1 hc1)) | ((with_reducible apply wl_store_own); assumption; rfl; (go_simp; rfl); (repeat (first | exact Out.here _ | apply Out.there)); rfl; rfl; omega; intro w1 hs1) | ((with_reducible apply wl_store1); assumption; rfl; (go_simp; rfl); (repeat (first | exact Out.here _ | apply Out.there)); rfl; rfl; simp; intro w1 hs1; (try simp only [List.setIfInBounds_toArray] at hs1); (try simp only [List.set_cons_succ] at hs1); (try simp only [List.set_cons_zero] at hs1)) | ((with_reducible apply wl_load); assumption; rfl; (repeat (first | assumption | exact Cl.blk rfl | apply Cl.cons))) | ((with_reducible apply wl_b2s); assumption; rfl; (repeat (first | assumption | exact Rd.own | exact Rd.nil | apply Rd.cons)); first | rfl | (simp [B8_app]))) | fail)
    go_loopw [5, 13] (fun l i wr => ∃ (k : Nat) (xs : List Int) (e2 : Int) (r2 : List UInt8) (Al : Option Addr) (cl : Nat), i = .int .i64 k ∧ k ≤ m ∧ r2.length ≤ b.length ∧ rdMany k e r = (xs, e2, r2) ∧ l = .slice Al k cl ∧ Sat w0 wr (own 3 1 Al cl k (I8 xs) :: Rd1 bx p e2 r2 :: bx :: L)) (fun _ i _ => 7 - (intOf i).toNat)
    case atStart => exact ⟨0, [], e, r, none, 0, rfl, Nat.zero_le _, hrl, rfl, rfl, hs3.own_nil _ _⟩
    case round =>
      obtain ⟨k, xs, e2, r2, Al, cl, rfl, hk, hr2, hm2, rfl, hs4⟩ := hrel
      have Hm2 := Hid.mk' hm2
      clear hs hs2 hs3 hm2 hrl
      by_cases hkm : k < m
      · obtain ⟨⟨v3, e3, r3⟩, hx3⟩ : ∃ x, rdNumber e2 r2 = x := ⟨_, rfl⟩
        obtain ⟨_, _, hr3, _⟩ := rdNumber_ok hx3
        have hN2 : ∀ {w : World} {L : List HP} {buf : HP} {p : Nat}, Sat w0 w (Rd1 buf p e2 r2 :: buf :: L) → Calls Try.prog 73 #[.pointer (some ⟨p, 0, none⟩)] w (RetN w0 L buf p (v3, e3, r3)) := fun hs => by
          have := number_read e2 r2 (by omega) hs
          rwa [hx3] at this
        have Hm3 : Hid (rdMany (k + 1) e r = (xs ++ [v3], e3, r3)) := by unfold Hid; rw [rdMany_succ, Hm2.out]; simp only; rw [hx3]
        clear hx3
        go_wp2_with (first | (go_at_call 73; refine (hN2 (hs4.pick (T := Rd1 bx p e2 r2 :: bx :: own 3 1 Al cl k (I8 xs) :: L) (by (repeat (first | exact Pick.nil _ | exact Pick.tail _ | exact Out.here _ | apply Out.there | apply Pick.cons | apply Pick.drop))))).mono ?_; rintro e' w5 ⟨rfl, hs5⟩; simp only at hs5) | (first | ((with_reducible apply wl_unguard); rfl) | ((with_reducible apply wl_buildSlice); assumption; rfl; (go_simp; rfl); (simp [Value.cells]); omega; intro b w1 hs1) | ((with_reducible apply wl_append); go_must (assumption; rfl; rfl; (repeat (first | exact Out.here _ | apply Out.there)); (repeat (first | assumption | exact Rd.own | exact Rd.nil | apply Rd.cons)); (first | exact B8_one _ | exact I8_one _ | (simp [Value.oneCell'])); (first | omega | (simp only [maxLen]; omega)); omega; intro A1 c1 w1 hs1 hc1; (try ((refine hs1.own_elim ?_ ?_); omega; rintro g1 rfl)); try simp only [Nat.zero_add, List.nil_append] at hs1 hc1)) | ((with_reducible apply wl_store_own); assumption; rfl; (go_simp; rfl); (repeat (first | exact Out.here _ | apply Out.there)); rfl; rfl; omega; intro w1 hs1) | ((with_reducible apply wl_store1); assumption; rfl; (go_simp; rfl); (repeat (first | exact Out.here _ | apply Out.there)); rfl; rfl; simp; intro w1 hs1; (try simp only [List.setIfInBounds_toArray] at hs1); (try simp only [List.set_cons_succ] at hs1); (try simp only [List.set_cons_zero] at hs1)) | ((with_reducible apply wl_load); assumption; rfl; (repeat (first | assumption | exact Cl.blk rfl | apply Cl.cons))) | ((with_reducible apply wl_b2s); assumption; rfl; (repeat (first | assumption | exact Rd.own | exact Rd.nil | apply Rd.cons)); first | rfl | (simp [B8_app]))) | fail)
        go_roundw
        case rel => exact ⟨k + 1, xs ++ [v3], e3, r3, _, _, by go_num, by omega, by omega, Hm3.out, by first | rfl | go_num, hs1.pick (by rw [show I8 (xs ++ [v3]) = I8 xs ++ [.int .i64 v3] from by simp [I8]]; (repeat (first | exact Pick.nil _ | exact Pick.tail _ | exact Out.here _ | apply Out.there | apply Pick.cons | apply Pick.drop)))⟩
        case measure => simp [intOf]; omega
      · obtain rfl : m = k := by omega
        have hxl : Hid (m = xs.length) := by have := rdMany_length m e r; rw [Hm2.out] at this; exact this.symm
        have hP : ∀ {w : World} {L : List HP}, Sat w0 w L → Rd w0 L Al m 1 (I8 xs) → Calls Try.prog 74 #[.slice Al m cl] w (RetT w0 L (putServers xs)) := fun hs hr => putServers_spec xs m hxl.out (by omega) hs hr
        obtain ⟨ok, hok⟩ : ∃ ok, okServers xs = ok := ⟨_, rfl⟩
        have HX2 : Hid ((if okServers xs = true ∧ srvBytes xs = b then (xs, 0) else ([], 21)) = X) := by have := HX.out; rw [Hm2.out] at this; exact this
        cases ok with
        | false =>
          have hp : putServers xs = ([], 1) := by simp [putServers, hok]
          rw [hp] at hP
          have HX3 : Hid (X = ([], 21)) := by unfold Hid; rw [← HX2.out, if_neg (by rw [hok]; simp)]
          clear hp hok
          go_wp2_with (first | (go_at_call 74; refine (hP hs4 Rd.own).mono ?_; rintro e' w6 ⟨A6, c6, rfl, hs6⟩) | (first | ((with_reducible apply wl_unguard); rfl) | ((with_reducible apply wl_buildSlice); assumption; rfl; (go_simp; rfl); (simp [Value.cells]); omega; intro b w1 hs1) | ((with_reducible apply wl_append); go_must (assumption; rfl; rfl; (repeat (first | exact Out.here _ | apply Out.there)); (repeat (first | assumption | exact Rd.own | exact Rd.nil | apply Rd.cons)); (first | exact B8_one _ | exact I8_one _ | (simp [Value.oneCell'])); (first | omega | (simp only [maxLen]; omega)); omega; intro A1 c1 w1 hs1 hc1; (try ((refine hs1.own_elim ?_ ?_); omega; rintro g1 rfl)); try simp only [Nat.zero_add, List.nil_append] at hs1 hc1)) | ((with_reducible apply wl_store_own); assumption; rfl; (go_simp; rfl); (repeat (first | exact Out.here _ | apply Out.there)); rfl; rfl; omega; intro w1 hs1) | ((with_reducible apply wl_store1); assumption; rfl; (go_simp; rfl); (repeat (first | exact Out.here _ | apply Out.there)); rfl; rfl; simp; intro w1 hs1; (try simp only [List.setIfInBounds_toArray] at hs1); (try simp only [List.set_cons_succ] at hs1); (try simp only [List.set_cons_zero] at hs1)) | ((with_reducible apply wl_load); assumption; rfl; (repeat (first | assumption | exact Cl.blk rfl | apply Cl.cons))) | ((with_reducible apply wl_b2s); assumption; rfl; (repeat (first | assumption | exact Rd.own | exact Rd.nil | apply Rd.cons)); first | rfl | (simp [B8_app]))) | fail)
          go_ret2
          exact ⟨none, 0, 0, by unfold Hid; rw [HX3.out]; rfl, by rw [HX3.out]; rfl, by rw [HX3.out]; exact Sat.own_nil (hs6.pick (by (repeat (first | exact Pick.nil _ | exact Pick.tail _ | exact Out.here _ | apply Out.there | apply Pick.cons | apply Pick.drop)))) _ _⟩
        | true =>
          have hp : putServers xs = (srvBytes xs, 0) := by simp [putServers, hok]
          rw [hp] at hP
          obtain ⟨z, hz⟩ : ∃ z, z = srvBytes xs := ⟨_, rfl⟩
          rw [← hz] at hP
          by_cases hzb : z = b
          · have HX3 : Hid (X = (xs, 0)) := by unfold Hid; rw [← HX2.out, if_pos ⟨hok, by rw [← hz, hzb]⟩]
            have hzb2 : (z == b) = true := by simp [hzb]
            clear hp hok hz hzb
            go_wp2_with (first | (go_at_call 74; refine (hP hs4 Rd.own).mono ?_; rintro e' w6 ⟨A6, c6, rfl, hs6⟩; simp only at hs6) | (go_at_call 47; refine (equal_spec z b hs6 Rd.own hR.cons.cons.cons.cons).mono ?_; rintro e' w7 ⟨rfl, rfl⟩) | (first | ((with_reducible apply wl_unguard); rfl) | ((with_reducible apply wl_buildSlice); assumption; rfl; (go_simp; rfl); (simp [Value.cells]); omega; intro b w1 hs1) | ((with_reducible apply wl_append); go_must (assumption; rfl; rfl; (repeat (first | exact Out.here _ | apply Out.there)); (repeat (first | assumption | exact Rd.own | exact Rd.nil | apply Rd.cons)); (first | exact B8_one _ | exact I8_one _ | (simp [Value.oneCell'])); (first | omega | (simp only [maxLen]; omega)); omega; intro A1 c1 w1 hs1 hc1; (try ((refine hs1.own_elim ?_ ?_); omega; rintro g1 rfl)); try simp only [Nat.zero_add, List.nil_append] at hs1 hc1)) | ((with_reducible apply wl_store_own); assumption; rfl; (go_simp; rfl); (repeat (first | exact Out.here _ | apply Out.there)); rfl; rfl; omega; intro w1 hs1) | ((with_reducible apply wl_store1); assumption; rfl; (go_simp; rfl); (repeat (first | exact Out.here _ | apply Out.there)); rfl; rfl; simp; intro w1 hs1; (try simp only [List.setIfInBounds_toArray] at hs1); (try simp only [List.set_cons_succ] at hs1); (try simp only [List.set_cons_zero] at hs1)) | ((with_reducible apply wl_load); assumption; rfl; (repeat (first | assumption | exact Cl.blk rfl | apply Cl.cons))) | ((with_reducible apply wl_b2s); assumption; rfl; (repeat (first | assumption | exact Rd.own | exact Rd.nil | apply Rd.cons)); first | rfl | (simp [B8_app]))) | fail)
            go_ret2
            exact ⟨Al, cl, m, by unfold Hid; rw [HX3.out]; exact hxl.out, by rw [HX3.out]; rfl, by rw [HX3.out]; exact hs6.pick (by (repeat (first | exact Pick.nil _ | exact Pick.tail _ | exact Out.here _ | apply Out.there | apply Pick.cons | apply Pick.drop)))⟩
          · have HX3 : Hid (X = ([], 21)) := by unfold Hid; rw [← HX2.out, if_neg (by rw [← hz]; exact fun h => hzb h.2)]
            have hzb2 : (z == b) = false := by simp [hzb]
            clear hp hok hz hzb
            go_wp2_with (first | (go_at_call 74; refine (hP hs4 Rd.own).mono ?_; rintro e' w6 ⟨A6, c6, rfl, hs6⟩; simp only at hs6) | (go_at_call 47; refine (equal_spec z b hs6 Rd.own hR.cons.cons.cons.cons).mono ?_; rintro e' w7 ⟨rfl, rfl⟩) | (first | ((with_reducible apply wl_unguard); rfl) | ((with_reducible apply wl_buildSlice); assumption; rfl; (go_simp; rfl); (simp [Value.cells]); omega; intro b w1 hs1) | ((with_reducible apply wl_append); go_must (assumption; rfl; rfl; (repeat (first | exact Out.here _ | apply Out.there)); (repeat (first | assumption | exact Rd.own | exact Rd.nil | apply Rd.cons)); (first | exact B8_one _ | exact I8_one _ | (simp [Value.oneCell'])); (first | omega | (simp only [maxLen]; omega)); omega; intro A1 c1 w1 hs1 hc1; (try ((refine hs1.own_elim ?_ ?_); omega; rintro g1 rfl)); try simp only [Nat.zero_add, List.nil_append] at hs1 hc1)) | ((with_reducible apply wl_store_own); assumption; rfl; (go_simp; rfl); (repeat (first | exact Out.here _ | apply Out.there)); rfl; rfl; omega; intro w1 hs1) | ((with_reducible apply wl_store1); assumption; rfl; (go_simp; rfl); (repeat (first | exact Out.here _ | apply Out.there)); rfl; rfl; simp; intro w1 hs1; (try simp only [List.setIfInBounds_toArray] at hs1); (try simp only [List.set_cons_succ] at hs1); (try simp only [List.set_cons_zero] at hs1)) | ((with_reducible apply wl_load); assumption; rfl; (repeat (first | assumption | exact Cl.blk rfl | apply Cl.cons))) | ((with_reducible apply wl_b2s); assumption; rfl; (repeat (first | assumption | exact Rd.own | exact Rd.nil | apply Rd.cons)); first | rfl | (simp [B8_app]))) | fail)
            go_ret2
            exact ⟨none, 0, 0, by unfold Hid; rw [HX3.out]; rfl, by rw [HX3.out]; rfl, by rw [HX3.out]; exact Sat.own_nil (hs6.pick (by (repeat (first | exact Pick.nil _ | exact Pick.tail _ | exact Out.here _ | apply Out.there | apply Pick.cons | apply Pick.drop)))) _ _⟩
  · have HX : Hid ((if okServers (rdMany 7 e r).1 = true ∧ srvBytes (rdMany 7 e r).1 = b then ((rdMany 7 e r).1, 0) else ([], 21)) = X) := by
      unfold Hid; rw [← hX]; unfold getServers; rw [hx]; simp only; rw [Nat.min_eq_right (by omega)]
    clear hx hX
    go_enter Try.func58, Try.ntmps58
    go_wp2_with (first | (go_at_call 72; refine (new_spec b hl hs hR).mono ?_; rintro e' w2 ⟨p, bx, rfl, hs2⟩) | (go_at_call 73; refine (hN (by assumption)).mono ?_; rintro e' w3 ⟨rfl, hs3⟩; simp only at hs3) | (first | ((with_reducible apply wl_unguard); rfl) | ((with_reducible apply wl_buildSlice); assumption; rfl; (go_simp; rfl); (simp [Value.cells]); omega; intro b w1 hs1) | ((with_reducible apply wl_append); go_must (assumption; rfl; rfl; (repeat (first | exact Out.here _ | apply Out.there)); (repeat (first | assumption | exact Rd.own | exact Rd.nil | apply Rd.cons)); (first | exact B8_one _ | exact I8_one _ | (simp [Value.oneCell'])); (first | omega | (simp only [maxLen]; omega)); omega; intro A1 c1 w1 hs1 hc1; (try ((refine hs1.own_elim ?_ ?_); omega; rintro g1 rfl)); try simp only [Nat.zero_add, List.nil_append] at hs1 hc1)) | ((with_reducible apply wl_store_own); assumption; rfl; (go_simp; rfl); (repeat (first | exact Out.here _ | apply Out.there)); rfl; rfl; omega; intro w1 hs1) | ((with_reducible apply wl_store1); assumption; rfl; (go_simp; rfl); (repeat (first | exact Out.here _ | apply Out.there)); rfl; rfl; simp; intro w1 hs1; (try simp only [List.setIfInBounds_toArray] at hs1); (try simp only [List.set_cons_succ] at hs1); (try simp only [List.set_cons_zero] at hs1)) | ((with_reducible apply wl_load); assumption; rfl; (repeat (first | assumption | exact Cl.blk rfl | apply Cl.cons))) | ((with_reducible apply wl_b2s); assumption; rfl; (repeat (first | assumption | exact Rd.own | exact Rd.nil | apply Rd.cons)); first | rfl | (simp [B8_app]))) | fail)
    go_loopw [5, 13] (fun l i wr => ∃ (k : Nat) (xs : List Int) (e2 : Int) (r2 : List UInt8) (Al : Option Addr) (cl : Nat), i = .int .i64 k ∧ k ≤ 7 ∧ r2.length ≤ b.length ∧ rdMany k e r = (xs, e2, r2) ∧ l = .slice Al k cl ∧ Sat w0 wr (own 3 1 Al cl k (I8 xs) :: Rd1 bx p e2 r2 :: bx :: L)) (fun _ i _ => 7 - (intOf i).toNat)
    case atStart => exact ⟨0, [], e, r, none, 0, rfl, Nat.zero_le _, hrl, rfl, rfl, hs3.own_nil _ _⟩
    case round =>
      obtain ⟨k, xs, e2, r2, Al, cl, rfl, hk, hr2, hm2, rfl, hs4⟩ := hrel
      have Hm2 := Hid.mk' hm2
      clear hs hs2 hs3 hm2 hrl
      by_cases hkm : k < 7
      · obtain ⟨⟨v3, e3, r3⟩, hx3⟩ : ∃ x, rdNumber e2 r2 = x := ⟨_, rfl⟩
        obtain ⟨_, _, hr3, _⟩ := rdNumber_ok hx3
        have hN2 : ∀ {w : World} {L : List HP} {buf : HP} {p : Nat}, Sat w0 w (Rd1 buf p e2 r2 :: buf :: L) → Calls Try.prog 73 #[.pointer (some ⟨p, 0, none⟩)] w (RetN w0 L buf p (v3, e3, r3)) := fun hs => by
          have := number_read e2 r2 (by omega) hs
          rwa [hx3] at this
        have Hm3 : Hid (rdMany (k + 1) e r = (xs ++ [v3], e3, r3)) := by unfold Hid; rw [rdMany_succ, Hm2.out]; simp only; rw [hx3]
        clear hx3
        go_wp2_with (first | (go_at_call 73; refine (hN2 (hs4.pick (T := Rd1 bx p e2 r2 :: bx :: own 3 1 Al cl k (I8 xs) :: L) (by (repeat (first | exact Pick.nil _ | exact Pick.tail _ | exact Out.here _ | apply Out.there | apply Pick.cons | apply Pick.drop))))).mono ?_; rintro e' w5 ⟨rfl, hs5⟩; simp only at hs5) | (first | ((with_reducible apply wl_unguard); rfl) | ((with_reducible apply wl_buildSlice); assumption; rfl; (go_simp; rfl); (simp [Value.cells]); omega; intro b w1 hs1) | ((with_reducible apply wl_append); go_must (assumption; rfl; rfl; (repeat (first | exact Out.here _ | apply Out.there)); (repeat (first | assumption | exact Rd.own | exact Rd.nil | apply Rd.cons)); (first | exact B8_one _ | exact I8_one _ | (simp [Value.oneCell'])); (first | omega | (simp only [maxLen]; omega)); omega; intro A1 c1 w1 hs1 hc1; (try ((refine hs1.own_elim ?_ ?_); omega; rintro g1 rfl)); try simp only [Nat.zero_add, List.nil_append] at hs1 hc1)) | ((with_reducible apply wl_store_own); assumption; rfl; (go_simp; rfl); (repeat (first | exact Out.here _ | apply Out.there)); rfl; rfl; omega; intro w1 hs1) | ((with_reducible apply wl_store1); assumption; rfl; (go_simp; rfl); (repeat (first | exact Out.here _ | apply Out.there)); rfl; rfl; simp; intro w1 hs1; (try simp only [List.setIfInBounds_toArray] at hs1); (try simp only [List.set_cons_succ] at hs1); (try simp only [List.set_cons_zero] at hs1)) | ((with_reducible apply wl_load); assumption; rfl; (repeat (first | assumption | exact Cl.blk rfl | apply Cl.cons))) | ((with_reducible apply wl_b2s); assumption; rfl; (repeat (first | assumption | exact Rd.own | exact Rd.nil | apply Rd.cons)); first | rfl | (simp [B8_app]))) | fail)
        go_roundw
        case rel => exact ⟨k + 1, xs ++ [v3], e3, r3, _, _, by go_num, by omega, by omega, Hm3.out, by first | rfl | go_num, hs1.pick (by rw [show I8 (xs ++ [v3]) = I8 xs ++ [.int .i64 v3] from by simp [I8]]; (repeat (first | exact Pick.nil _ | exact Pick.tail _ | exact Out.here _ | apply Out.there | apply Pick.cons | apply Pick.drop)))⟩
        case measure => simp [intOf]; omega
      · obtain rfl : k = 7 := by omega
        have hxl : Hid (7 = xs.length) := by have := rdMany_length 7 e r; rw [Hm2.out] at this; exact this.symm
        have hP : ∀ {w : World} {L : List HP}, Sat w0 w L → Rd w0 L Al 7 1 (I8 xs) → Calls Try.prog 74 #[.slice Al 7 cl] w (RetT w0 L (putServers xs)) := fun hs hr => putServers_spec xs 7 hxl.out (by omega) hs hr
        obtain ⟨ok, hok⟩ : ∃ ok, okServers xs = ok := ⟨_, rfl⟩
        have HX2 : Hid ((if okServers xs = true ∧ srvBytes xs = b then (xs, 0) else ([], 21)) = X) := by have := HX.out; rw [Hm2.out] at this; exact this
        cases ok with
        | false =>
          have hp : putServers xs = ([], 1) := by simp [putServers, hok]
          rw [hp] at hP
          have HX3 : Hid (X = ([], 21)) := by unfold Hid; rw [← HX2.out, if_neg (by rw [hok]; simp)]
          clear hp hok
          go_wp2_with (first | (go_at_call 74; refine (hP hs4 Rd.own).mono ?_; rintro e' w6 ⟨A6, c6, rfl, hs6⟩) | (first | ((with_reducible apply wl_unguard); rfl) | ((with_reducible apply wl_buildSlice); assumption; rfl; (go_simp; rfl); (simp [Value.cells]); omega; intro b w1 hs1) | ((with_reducible apply wl_append); go_must (assumption; rfl; rfl; (repeat (first | exact Out.here _ | apply Out.there)); (repeat (first | assumption | exact Rd.own | exact Rd.nil | apply Rd.cons)); (first | exact B8_one _ | exact I8_one _ | (simp [Value.oneCell'])); (first | omega | (simp only [maxLen]; omega)); omega; intro A1 c1 w1 hs1 hc1; (try ((refine hs1.own_elim ?_ ?_); omega; rintro g1 rfl)); try simp only [Nat.zero_add, List.nil_append] at hs1 hc1)) | ((with_reducible apply wl_store_own); assumption; rfl; (go_simp; rfl); (repeat (first | exact Out.here _ | apply Out.there)); rfl; rfl; omega; intro w1 hs1) | ((with_reducible apply wl_store1); assumption; rfl; (go_simp; rfl); (repeat (first | exact Out.here _ | apply Out.there)); rfl; rfl; simp; intro w1 hs1; (try simp only [List.setIfInBounds_toArray] at hs1); (try simp only [List.set_cons_succ] at hs1); (try simp only [List.set_cons_zero] at hs1)) | ((with_reducible apply wl_load); assumption; rfl; (repeat (first | assumption | exact Cl.blk rfl | apply Cl.cons))) | ((with_reducible apply wl_b2s); assumption; rfl; (repeat (first | assumption | exact Rd.own | exact Rd.nil | apply Rd.cons)); first | rfl | (simp [B8_app]))) | fail)
          go_ret2
          exact ⟨none, 0, 0, by unfold Hid; rw [HX3.out]; rfl, by rw [HX3.out]; rfl, by rw [HX3.out]; exact Sat.own_nil (hs6.pick (by (repeat (first | exact Pick.nil _ | exact Pick.tail _ | exact Out.here _ | apply Out.there | apply Pick.cons | apply Pick.drop)))) _ _⟩
        | true =>
          have hp : putServers xs = (srvBytes xs, 0) := by simp [putServers, hok]
          rw [hp] at hP
          obtain ⟨z, hz⟩ : ∃ z, z = srvBytes xs := ⟨_, rfl⟩
          rw [← hz] at hP
          by_cases hzb : z = b
          · have HX3 : Hid (X = (xs, 0)) := by unfold Hid; rw [← HX2.out, if_pos ⟨hok, by rw [← hz, hzb]⟩]
            have hzb2 : (z == b) = true := by simp [hzb]
            clear hp hok hz hzb
            go_wp2_with (first | (go_at_call 74; refine (hP hs4 Rd.own).mono ?_; rintro e' w6 ⟨A6, c6, rfl, hs6⟩; simp only at hs6) | (go_at_call 47; refine (equal_spec z b hs6 Rd.own hR.cons.cons.cons.cons).mono ?_; rintro e' w7 ⟨rfl, rfl⟩) | (first | ((with_reducible apply wl_unguard); rfl) | ((with_reducible apply wl_buildSlice); assumption; rfl; (go_simp; rfl); (simp [Value.cells]); omega; intro b w1 hs1) | ((with_reducible apply wl_append); go_must (assumption; rfl; rfl; (repeat (first | exact Out.here _ | apply Out.there)); (repeat (first | assumption | exact Rd.own | exact Rd.nil | apply Rd.cons)); (first | exact B8_one _ | exact I8_one _ | (simp [Value.oneCell'])); (first | omega | (simp only [maxLen]; omega)); omega; intro A1 c1 w1 hs1 hc1; (try ((refine hs1.own_elim ?_ ?_); omega; rintro g1 rfl)); try simp only [Nat.zero_add, List.nil_append] at hs1 hc1)) | ((with_reducible apply wl_store_own); assumption; rfl; (go_simp; rfl); (repeat (first | exact Out.here _ | apply Out.there)); rfl; rfl; omega; intro w1 hs1) | ((with_reducible apply wl_store1); assumption; rfl; (go_simp; rfl); (repeat (first | exact Out.here _ | apply Out.there)); rfl; rfl; simp; intro w1 hs1; (try simp only [List.setIfInBounds_toArray] at hs1); (try simp only [List.set_cons_succ] at hs1); (try simp only [List.set_cons_zero] at hs1)) | ((with_reducible apply wl_load); assumption; rfl; (repeat (first | assumption | exact Cl.blk rfl | apply Cl.cons))) | ((with_reducible apply wl_b2s); assumption; rfl; (repeat (first | assumption | exact Rd.own | exact Rd.nil | apply Rd.cons)); first | rfl | (simp [B8_app]))) | fail)
            go_ret2
            exact ⟨Al, cl, 7, by unfold Hid; rw [HX3.out]; exact hxl.out, by rw [HX3.out]; rfl, by rw [HX3.out]; exact hs6.pick (by (repeat (first | exact Pick.nil _ | exact Pick.tail _ | exact Out.here _ | apply Out.there | apply Pick.cons | apply Pick.drop)))⟩
          · have HX3 : Hid (X = ([], 21)) := by unfold Hid; rw [← HX2.out, if_neg (by rw [← hz]; exact fun h => hzb h.2)]
            have hzb2 : (z == b) = false := by simp [hzb]
            clear hp hok hz hzb
            go_wp2_with (first | (go_at_call 74; refine (hP hs4 Rd.own).mono ?_; rintro e' w6 ⟨A6, c6, rfl, hs6⟩; simp only at hs6) | (go_at_call 47; refine (equal_spec z b hs6 Rd.own hR.cons.cons.cons.cons).mono ?_; rintro e' w7 ⟨rfl, rfl⟩) | (first | ((with_reducible apply wl_unguard); rfl) | ((with_reducible apply wl_buildSlice); assumption; rfl; (go_simp; rfl); (simp [Value.cells]); omega; intro b w1 hs1) | ((with_reducible apply wl_append); go_must (assumption; rfl; rfl; (repeat (first | exact Out.here _ | apply Out.there)); (repeat (first | assumption | exact Rd.own | exact Rd.nil | apply Rd.cons)); (first | exact B8_one _ | exact I8_one _ | (simp [Value.oneCell'])); (first | omega | (simp only [maxLen]; omega)); omega; intro A1 c1 w1 hs1 hc1; (try ((refine hs1.own_elim ?_ ?_); omega; rintro g1 rfl)); try simp only [Nat.zero_add, List.nil_append] at hs1 hc1)) | ((with_reducible apply wl_store_own); assumption; rfl; (go_simp; rfl); (repeat (first | exact Out.here _ | apply Out.there)); rfl; rfl; omega; intro w1 hs1) | ((with_reducible apply wl_store1); assumption; rfl; (go_simp; rfl); (repeat (first | exact Out.here _ | apply Out.there)); rfl; rfl; simp; intro w1 hs1; (try simp only [List.setIfInBounds_toArray] at hs1); (try simp only [List.set_cons_succ] at hs1); (try simp only [List.set_cons_zero] at hs1)) | ((with_reducible apply wl_load); assumption; rfl; (repeat (first | assumption | exact Cl.blk rfl | apply Cl.cons))) | ((with_reducible apply wl_b2s); assumption; rfl; (repeat (first | assumption | exact Rd.own | exact Rd.nil | apply Rd.cons)); first | rfl | (simp [B8_app]))) | fail)
            go_ret2
            exact ⟨none, 0, 0, by unfold Hid; rw [HX3.out]; rfl, by rw [HX3.out]; rfl, by rw [HX3.out]; exact Sat.own_nil (hs6.pick (by (repeat (first | exact Pick.nil _ | exact Pick.tail _ | exact Out.here _ | apply Out.there | apply Pick.cons | apply Pick.drop)))) _ _⟩
end Go.Proofs.Ytcpcdhlfdabbnaa

/-
  GetServers of the document. (This template was written by srv4gen.py.)
-/
namespace Go.Proofs.Ytcpcdhlfdabbnaa
open Go Go.RowKit Sl Go.Shelf

set_option maxRecDepth 8000 in
set_option maxHeartbeats 4000000 in
theorem refGetServers_spec' {w0 w : World} {L : List HP} {A : Option Addr} {c : Nat} (b : List UInt8) (hl : b.length ≤ 4294967296) (hs : Sat w0 w L) (hR : Rd w0 L A b.length 1 (B8 b)) :
    Calls Try.prog 61 #[.slice A b.length c] w (RetI w0 L (refGetServers b)) := by
  obtain ⟨⟨v, e, r⟩, hx⟩ : ∃ x, rdNumber 0 b = x := ⟨_, rfl⟩
  obtain ⟨hv0, hvv, hrl, hv48⟩ := rdNumber_ok hx
  clear hvv
  have hN : ∀ {w : World} {L : List HP} {buf : HP} {p : Nat}, Sat w0 w (RR buf p 0 b :: buf :: L) → Calls Try.prog 78 #[.pointer (some ⟨p, 0, none⟩)] w (fun q w' => q = .returned (.int .i64 v) ∧ Sat w0 w' (RR buf p e r :: buf :: L)) := fun hs => by
    have := refNumberR 0 b hs
    rwa [hx] at this
  obtain ⟨X, hX⟩ : ∃ X, refGetServers b = X := ⟨_, rfl⟩
  rw [hX]
  by_cases h7 : v ≤ 8
  · obtain ⟨m, rfl⟩ := Int.eq_ofNat_of_zero_le hv0
    have hm7 : m ≤ 8 := by omega
    have HX : Hid ((if rdEnd (rdMany m e r).2.1 (rdMany m e r).2.2 ≠ 0 ∨ (m : Int) ≠ ((rdMany m e r).1.length : Int) ∨ okServers (rdMany m e r).1 = false then ([], 21) else ((rdMany m e r).1, 0)) = X) := by
      unfold Hid; rw [← hX]; unfold refGetServers; rw [hx]; simp only [Int.toNat_natCast]; rw [Nat.min_eq_left hm7]
    clear hx hX
    go_enter Try.func61, Try.ntmps61
    go_wp2_with (first | (go_at_call 77; refine (refNew_spec b hl hs hR).mono ?_; rintro e' w2 ⟨p, bx, rfl, hs2⟩) | (go_at_call 78; refine (hN (by assumption)).mono ?_; rintro e' w3 ⟨rfl, hs3⟩) | (first | ((with_reducible apply wl_unguard); rfl) | ((with_reducible apply wl_buildSlice); assumption; rfl; (go_simp; rfl); (simp [Value.cells]); omega; intro b w1 hs1) | ((with_reducible apply wl_append); go_must (assumption; rfl; rfl; (repeat (first | exact Out.here _ | apply Out.there)); (repeat (first | assumption | exact Rd.own | exact Rd.nil | apply Rd.cons)); (first | exact B8_one _ | exact I8_one _ | (simp [Value.oneCell'])); (first | omega | (simp only [maxLen]; omega)); omega; intro A1 c1 w1 hs1 hc1; (try ((refine hs1.own_elim ?_ ?_); omega; rintro g1 rfl)); try simp only [Nat.zero_add, List.nil_append] at hs1 hc1)) | ((with_reducible apply wl_store_own); assumption; rfl; (go_simp; rfl); (repeat (first | exact Out.here _ | apply Out.there)); rfl; rfl; omega; intro w1 hs1) | ((with_reducible apply wl_store1); assumption; rfl; (go_simp; rfl); (repeat (first | exact Out.here _ | apply Out.there)); rfl; rfl; simp; intro w1 hs1; (try simp only [List.setIfInBounds_toArray] at hs1); (try simp only [List.set_cons_succ] at hs1); (try simp only [List.set_cons_zero] at hs1)) | ((with_reducible apply wl_load); assumption; rfl; (repeat (first | assumption | exact Cl.blk rfl | apply Cl.cons))) | ((with_reducible apply wl_b2s); assumption; rfl; (repeat (first | assumption | exact Rd.own | exact Rd.nil | apply Rd.cons)); first | rfl | (simp [B8_app]))) | fail)
    go_loopw [6, 7] (fun l i wr => ∃ (k : Nat) (xs : List Int) (e2 : Int) (r2 : List UInt8) (Al : Option Addr) (cl : Nat), i = .int .i64 k ∧ k ≤ m ∧ rdMany k e r = (xs, e2, r2) ∧ l = .slice Al k cl ∧ Sat w0 wr (own 3 1 Al cl k (I8 xs) :: RR bx p e2 r2 :: bx :: L)) (fun _ i _ => 8 - (intOf i).toNat)
    case atStart => exact ⟨0, [], e, r, none, 0, rfl, Nat.zero_le _, rfl, rfl, hs3.own_nil _ _⟩
    case round =>
      obtain ⟨k, xs, e2, r2, Al, cl, rfl, hk, hm2, rfl, hs4⟩ := hrel
      have Hm2 := Hid.mk' hm2
      clear hs hs2 hs3 hm2 hrl
      by_cases hkm : k < m
      · obtain ⟨⟨v3, e3, r3⟩, hx3⟩ : ∃ x, rdNumber e2 r2 = x := ⟨_, rfl⟩
        have hN2 : ∀ {w : World} {L : List HP} {buf : HP} {p : Nat}, Sat w0 w (RR buf p e2 r2 :: buf :: L) → Calls Try.prog 78 #[.pointer (some ⟨p, 0, none⟩)] w (fun q w' => q = .returned (.int .i64 v3) ∧ Sat w0 w' (RR buf p e3 r3 :: buf :: L)) := fun hs => by
          have := refNumberR e2 r2 hs
          rwa [hx3] at this
        have Hm3 : Hid (rdMany (k + 1) e r = (xs ++ [v3], e3, r3)) := by unfold Hid; rw [rdMany_succ, Hm2.out]; simp only; rw [hx3]
        clear hx3
        have d1 : decide ((k : Int) < (m : Int)) = true := by simp; omega
        have d2 : decide ((k : Int) < 8) = true := by simp; omega
        go_wp2_with (first | (go_at_call 78; refine (hN2 (hs4.pick (T := RR bx p e2 r2 :: bx :: own 3 1 Al cl k (I8 xs) :: L) (by (repeat (first | exact Pick.nil _ | exact Pick.tail _ | exact Out.here _ | apply Out.there | apply Pick.cons | apply Pick.drop))))).mono ?_; rintro e' w5 ⟨rfl, hs5⟩) | (first | ((with_reducible apply wl_unguard); rfl) | ((with_reducible apply wl_buildSlice); assumption; rfl; (go_simp; rfl); (simp [Value.cells]); omega; intro b w1 hs1) | ((with_reducible apply wl_append); go_must (assumption; rfl; rfl; (repeat (first | exact Out.here _ | apply Out.there)); (repeat (first | assumption | exact Rd.own | exact Rd.nil | apply Rd.cons)); (first | exact B8_one _ | exact I8_one _ | (simp [Value.oneCell'])); (first | omega | (simp only [maxLen]; omega)); omega; intro A1 c1 w1 hs1 hc1; (try ((refine hs1.own_elim ?_ ?_); omega; rintro g1 rfl)); try simp only [Nat.zero_add, List.nil_append] at hs1 hc1)) | ((with_reducible apply wl_store_own); assumption; rfl; (go_simp; rfl); (repeat (first | exact Out.here _ | apply Out.there)); rfl; rfl; omega; intro w1 hs1) | ((with_reducible apply wl_store1); assumption; rfl; (go_simp; rfl); (repeat (first | exact Out.here _ | apply Out.there)); rfl; rfl; simp; intro w1 hs1; (try simp only [List.setIfInBounds_toArray] at hs1); (try simp only [List.set_cons_succ] at hs1); (try simp only [List.set_cons_zero] at hs1)) | ((with_reducible apply wl_load); assumption; rfl; (repeat (first | assumption | exact Cl.blk rfl | apply Cl.cons))) | ((with_reducible apply wl_b2s); assumption; rfl; (repeat (first | assumption | exact Rd.own | exact Rd.nil | apply Rd.cons)); first | rfl | (simp [B8_app]))) | fail)
        go_roundw
        case rel => exact ⟨k + 1, xs ++ [v3], e3, r3, _, _, by go_num, by omega, Hm3.out, by first | rfl | go_num, hs1.pick (by rw [show I8 (xs ++ [v3]) = I8 xs ++ [.int .i64 v3] from by simp [I8]]; (repeat (first | exact Pick.nil _ | exact Pick.tail _ | exact Out.here _ | apply Out.there | apply Pick.cons | apply Pick.drop)))⟩
        case measure => simp [intOf]; omega
      · obtain rfl : m = k := by omega
        have hxl : Hid (m = xs.length) := by have := rdMany_length m e r; rw [Hm2.out] at this; exact this.symm
        have HX2 : Hid ((if rdEnd e2 r2 ≠ 0 ∨ (m : Int) ≠ (xs.length : Int) ∨ okServers xs = false then ([], 21) else (xs, 0)) = X) := by have := HX.out; rw [Hm2.out] at this; exact this
        obtain ⟨d, hd⟩ : ∃ d, d = rdEnd e2 r2 := ⟨_, rfl⟩
        have hE : ∀ {w : World} {L : List HP}, Sat w0 w (RR bx p e2 r2 :: L) → Calls Try.prog 79 #[.pointer (some ⟨p, 0, none⟩)] w (fun r w' => r = .returned (.int .i64 d) ∧ Sat w0 w' (RR bx p e2 r2 :: L)) := fun hs => by rw [hd]; exact refEnd_spec hs
        by_cases hd0 : d ≠ 0
        · have HX3 : Hid (X = ([], 21)) := by unfold Hid; rw [← HX2.out, if_pos (.inl (by rw [← hd]; exact hd0))]
          have h0 : (d != 0) = true := by simp [hd0]
          clear hd hd0
          go_wp2_with (first | (go_at_call 79; refine (hE (hs4.pick (T := RR bx p e2 r2 :: bx :: own 3 1 Al cl m (I8 xs) :: L) (by (repeat (first | exact Pick.nil _ | exact Pick.tail _ | exact Out.here _ | apply Out.there | apply Pick.cons | apply Pick.drop))))).mono ?_; rintro e' w5 ⟨rfl, hs5⟩) | (first | ((with_reducible apply wl_unguard); rfl) | ((with_reducible apply wl_buildSlice); assumption; rfl; (go_simp; rfl); (simp [Value.cells]); omega; intro b w1 hs1) | ((with_reducible apply wl_append); go_must (assumption; rfl; rfl; (repeat (first | exact Out.here _ | apply Out.there)); (repeat (first | assumption | exact Rd.own | exact Rd.nil | apply Rd.cons)); (first | exact B8_one _ | exact I8_one _ | (simp [Value.oneCell'])); (first | omega | (simp only [maxLen]; omega)); omega; intro A1 c1 w1 hs1 hc1; (try ((refine hs1.own_elim ?_ ?_); omega; rintro g1 rfl)); try simp only [Nat.zero_add, List.nil_append] at hs1 hc1)) | ((with_reducible apply wl_store_own); assumption; rfl; (go_simp; rfl); (repeat (first | exact Out.here _ | apply Out.there)); rfl; rfl; omega; intro w1 hs1) | ((with_reducible apply wl_store1); assumption; rfl; (go_simp; rfl); (repeat (first | exact Out.here _ | apply Out.there)); rfl; rfl; simp; intro w1 hs1; (try simp only [List.setIfInBounds_toArray] at hs1); (try simp only [List.set_cons_succ] at hs1); (try simp only [List.set_cons_zero] at hs1)) | ((with_reducible apply wl_load); assumption; rfl; (repeat (first | assumption | exact Cl.blk rfl | apply Cl.cons))) | ((with_reducible apply wl_b2s); assumption; rfl; (repeat (first | assumption | exact Rd.own | exact Rd.nil | apply Rd.cons)); first | rfl | (simp [B8_app]))) | fail)
          go_ret2
          exact ⟨none, 0, 0, by unfold Hid; rw [HX3.out]; rfl, by rw [HX3.out]; rfl, by rw [HX3.out]; exact Sat.own_nil (hs5.pick (by (repeat (first | exact Pick.nil _ | exact Pick.tail _ | exact Out.here _ | apply Out.there | apply Pick.cons | apply Pick.drop)))) _ _⟩
        · obtain rfl : d = 0 := by omega
          clear hd0
          have hQ : ∀ {w : World} {L : List HP}, Sat w0 w L → Rd w0 L Al m 1 (I8 xs) → Calls Try.prog 76 #[.slice Al m cl] w (RetB w0 L (okServers xs)) := fun hs hr => rightServers_spec xs hxl (by omega) hs hr
          obtain ⟨ok, hok⟩ : ∃ ok, okServers xs = ok := ⟨_, rfl⟩
          rw [hok] at hQ
          have HX3 : Hid (X = if ok = false then ([], 21) else (xs, 0)) := by
            unfold Hid; rw [← HX2.out, ← hd, hok, hxl.out]; simp
          clear hd hok
          cases ok with
          | false =>
            go_wp2_with (first | (go_at_call 79; refine (hE (hs4.pick (T := RR bx p e2 r2 :: bx :: own 3 1 Al cl m (I8 xs) :: L) (by (repeat (first | exact Pick.nil _ | exact Pick.tail _ | exact Out.here _ | apply Out.there | apply Pick.cons | apply Pick.drop))))).mono ?_; rintro e' w5 ⟨rfl, hs5⟩) | (go_at_call 76; refine (hQ hs5 (by (repeat (first | assumption | exact Rd.own | exact Rd.nil | apply Rd.cons)))).mono ?_; rintro e' w6 ⟨rfl, hs6⟩) | (first | ((with_reducible apply wl_unguard); rfl) | ((with_reducible apply wl_buildSlice); assumption; rfl; (go_simp; rfl); (simp [Value.cells]); omega; intro b w1 hs1) | ((with_reducible apply wl_append); go_must (assumption; rfl; rfl; (repeat (first | exact Out.here _ | apply Out.there)); (repeat (first | assumption | exact Rd.own | exact Rd.nil | apply Rd.cons)); (first | exact B8_one _ | exact I8_one _ | (simp [Value.oneCell'])); (first | omega | (simp only [maxLen]; omega)); omega; intro A1 c1 w1 hs1 hc1; (try ((refine hs1.own_elim ?_ ?_); omega; rintro g1 rfl)); try simp only [Nat.zero_add, List.nil_append] at hs1 hc1)) | ((with_reducible apply wl_store_own); assumption; rfl; (go_simp; rfl); (repeat (first | exact Out.here _ | apply Out.there)); rfl; rfl; omega; intro w1 hs1) | ((with_reducible apply wl_store1); assumption; rfl; (go_simp; rfl); (repeat (first | exact Out.here _ | apply Out.there)); rfl; rfl; simp; intro w1 hs1; (try simp only [List.setIfInBounds_toArray] at hs1); (try simp only [List.set_cons_succ] at hs1); (try simp only [List.set_cons_zero] at hs1)) | ((with_reducible apply wl_load); assumption; rfl; (repeat (first | assumption | exact Cl.blk rfl | apply Cl.cons))) | ((with_reducible apply wl_b2s); assumption; rfl; (repeat (first | assumption | exact Rd.own | exact Rd.nil | apply Rd.cons)); first | rfl | (simp [B8_app]))) | fail)
            go_ret2
            exact ⟨none, 0, 0, by unfold Hid; rw [HX3.out]; rfl, by rw [HX3.out]; rfl, by rw [HX3.out]; exact Sat.own_nil (hs6.pick (by (repeat (first | exact Pick.nil _ | exact Pick.tail _ | exact Out.here _ | apply Out.there | apply Pick.cons | apply Pick.drop)))) _ _⟩
          | true =>
            go_wp2_with (first | (go_at_call 79; refine (hE (hs4.pick (T := RR bx p e2 r2 :: bx :: own 3 1 Al cl m (I8 xs) :: L) (by (repeat (first | exact Pick.nil _ | exact Pick.tail _ | exact Out.here _ | apply Out.there | apply Pick.cons | apply Pick.drop))))).mono ?_; rintro e' w5 ⟨rfl, hs5⟩) | (go_at_call 76; refine (hQ hs5 (by (repeat (first | assumption | exact Rd.own | exact Rd.nil | apply Rd.cons)))).mono ?_; rintro e' w6 ⟨rfl, hs6⟩) | (first | ((with_reducible apply wl_unguard); rfl) | ((with_reducible apply wl_buildSlice); assumption; rfl; (go_simp; rfl); (simp [Value.cells]); omega; intro b w1 hs1) | ((with_reducible apply wl_append); go_must (assumption; rfl; rfl; (repeat (first | exact Out.here _ | apply Out.there)); (repeat (first | assumption | exact Rd.own | exact Rd.nil | apply Rd.cons)); (first | exact B8_one _ | exact I8_one _ | (simp [Value.oneCell'])); (first | omega | (simp only [maxLen]; omega)); omega; intro A1 c1 w1 hs1 hc1; (try ((refine hs1.own_elim ?_ ?_); omega; rintro g1 rfl)); try simp only [Nat.zero_add, List.nil_append] at hs1 hc1)) | ((with_reducible apply wl_store_own); assumption; rfl; (go_simp; rfl); (repeat (first | exact Out.here _ | apply Out.there)); rfl; rfl; omega; intro w1 hs1) | ((with_reducible apply wl_store1); assumption; rfl; (go_simp; rfl); (repeat (first | exact Out.here _ | apply Out.there)); rfl; rfl; simp; intro w1 hs1; (try simp only [List.setIfInBounds_toArray] at hs1); (try simp only [List.set_cons_succ] at hs1); (try simp only [List.set_cons_zero] at hs1)) | ((with_reducible apply wl_load); assumption; rfl; (repeat (first | assumption | exact Cl.blk rfl | apply Cl.cons))) | ((with_reducible apply wl_b2s); assumption; rfl; (repeat (first | assumption | exact Rd.own | exact Rd.nil | apply Rd.cons)); first | rfl | (simp [B8_app]))) | fail)
            go_ret2
            exact ⟨Al, cl, m, by unfold Hid; rw [HX3.out]; exact hxl.out, by rw [HX3.out]; rfl, by rw [HX3.out]; exact hs6.pick (by (repeat (first | exact Pick.nil _ | exact Pick.tail _ | exact Out.here _ | apply Out.there | apply Pick.cons | apply Pick.drop)))⟩
  · have HX : Hid ((if rdEnd (rdMany 8 e r).2.1 (rdMany 8 e r).2.2 ≠ 0 ∨ v ≠ ((rdMany 8 e r).1.length : Int) ∨ okServers (rdMany 8 e r).1 = false then ([], 21) else ((rdMany 8 e r).1, 0)) = X) := by
      unfold Hid; rw [← hX]; unfold refGetServers; rw [hx]; simp only; rw [Nat.min_eq_right (by omega)]
    clear hx hX
    go_enter Try.func61, Try.ntmps61
    go_wp2_with (first | (go_at_call 77; refine (refNew_spec b hl hs hR).mono ?_; rintro e' w2 ⟨p, bx, rfl, hs2⟩) | (go_at_call 78; refine (hN (by assumption)).mono ?_; rintro e' w3 ⟨rfl, hs3⟩) | (first | ((with_reducible apply wl_unguard); rfl) | ((with_reducible apply wl_buildSlice); assumption; rfl; (go_simp; rfl); (simp [Value.cells]); omega; intro b w1 hs1) | ((with_reducible apply wl_append); go_must (assumption; rfl; rfl; (repeat (first | exact Out.here _ | apply Out.there)); (repeat (first | assumption | exact Rd.own | exact Rd.nil | apply Rd.cons)); (first | exact B8_one _ | exact I8_one _ | (simp [Value.oneCell'])); (first | omega | (simp only [maxLen]; omega)); omega; intro A1 c1 w1 hs1 hc1; (try ((refine hs1.own_elim ?_ ?_); omega; rintro g1 rfl)); try simp only [Nat.zero_add, List.nil_append] at hs1 hc1)) | ((with_reducible apply wl_store_own); assumption; rfl; (go_simp; rfl); (repeat (first | exact Out.here _ | apply Out.there)); rfl; rfl; omega; intro w1 hs1) | ((with_reducible apply wl_store1); assumption; rfl; (go_simp; rfl); (repeat (first | exact Out.here _ | apply Out.there)); rfl; rfl; simp; intro w1 hs1; (try simp only [List.setIfInBounds_toArray] at hs1); (try simp only [List.set_cons_succ] at hs1); (try simp only [List.set_cons_zero] at hs1)) | ((with_reducible apply wl_load); assumption; rfl; (repeat (first | assumption | exact Cl.blk rfl | apply Cl.cons))) | ((with_reducible apply wl_b2s); assumption; rfl; (repeat (first | assumption | exact Rd.own | exact Rd.nil | apply Rd.cons)); first | rfl | (simp [B8_app]))) | fail)
    go_loopw [6, 7] (fun l i wr => ∃ (k : Nat) (xs : List Int) (e2 : Int) (r2 : List UInt8) (Al : Option Addr) (cl : Nat), i = .int .i64 k ∧ k ≤ 8 ∧ rdMany k e r = (xs, e2, r2) ∧ l = .slice Al k cl ∧ Sat w0 wr (own 3 1 Al cl k (I8 xs) :: RR bx p e2 r2 :: bx :: L)) (fun _ i _ => 8 - (intOf i).toNat)
    case atStart => exact ⟨0, [], e, r, none, 0, rfl, Nat.zero_le _, rfl, rfl, hs3.own_nil _ _⟩
    case round =>
      obtain ⟨k, xs, e2, r2, Al, cl, rfl, hk, hm2, rfl, hs4⟩ := hrel
      have Hm2 := Hid.mk' hm2
      clear hs hs2 hs3 hm2 hrl
      by_cases hkm : k < 8
      · obtain ⟨⟨v3, e3, r3⟩, hx3⟩ : ∃ x, rdNumber e2 r2 = x := ⟨_, rfl⟩
        have hN2 : ∀ {w : World} {L : List HP} {buf : HP} {p : Nat}, Sat w0 w (RR buf p e2 r2 :: buf :: L) → Calls Try.prog 78 #[.pointer (some ⟨p, 0, none⟩)] w (fun q w' => q = .returned (.int .i64 v3) ∧ Sat w0 w' (RR buf p e3 r3 :: buf :: L)) := fun hs => by
          have := refNumberR e2 r2 hs
          rwa [hx3] at this
        have Hm3 : Hid (rdMany (k + 1) e r = (xs ++ [v3], e3, r3)) := by unfold Hid; rw [rdMany_succ, Hm2.out]; simp only; rw [hx3]
        clear hx3
        have d1 : decide ((k : Int) < v) = true := by simp; omega
        have d2 : decide ((k : Int) < 8) = true := by simp; omega
        go_wp2_with (first | (go_at_call 78; refine (hN2 (hs4.pick (T := RR bx p e2 r2 :: bx :: own 3 1 Al cl k (I8 xs) :: L) (by (repeat (first | exact Pick.nil _ | exact Pick.tail _ | exact Out.here _ | apply Out.there | apply Pick.cons | apply Pick.drop))))).mono ?_; rintro e' w5 ⟨rfl, hs5⟩) | (first | ((with_reducible apply wl_unguard); rfl) | ((with_reducible apply wl_buildSlice); assumption; rfl; (go_simp; rfl); (simp [Value.cells]); omega; intro b w1 hs1) | ((with_reducible apply wl_append); go_must (assumption; rfl; rfl; (repeat (first | exact Out.here _ | apply Out.there)); (repeat (first | assumption | exact Rd.own | exact Rd.nil | apply Rd.cons)); (first | exact B8_one _ | exact I8_one _ | (simp [Value.oneCell'])); (first | omega | (simp only [maxLen]; omega)); omega; intro A1 c1 w1 hs1 hc1; (try ((refine hs1.own_elim ?_ ?_); omega; rintro g1 rfl)); try simp only [Nat.zero_add, List.nil_append] at hs1 hc1)) | ((with_reducible apply wl_store_own); assumption; rfl; (go_simp; rfl); (repeat (first | exact Out.here _ | apply Out.there)); rfl; rfl; omega; intro w1 hs1) | ((with_reducible apply wl_store1); assumption; rfl; (go_simp; rfl); (repeat (first | exact Out.here _ | apply Out.there)); rfl; rfl; simp; intro w1 hs1; (try simp only [List.setIfInBounds_toArray] at hs1); (try simp only [List.set_cons_succ] at hs1); (try simp only [List.set_cons_zero] at hs1)) | ((with_reducible apply wl_load); assumption; rfl; (repeat (first | assumption | exact Cl.blk rfl | apply Cl.cons))) | ((with_reducible apply wl_b2s); assumption; rfl; (repeat (first | assumption | exact Rd.own | exact Rd.nil | apply Rd.cons)); first | rfl | (simp [B8_app]))) | fail)
        go_roundw
        case rel => exact ⟨k + 1, xs ++ [v3], e3, r3, _, _, by go_num, by omega, Hm3.out, by first | rfl | go_num, hs1.pick (by rw [show I8 (xs ++ [v3]) = I8 xs ++ [.int .i64 v3] from by simp [I8]]; (repeat (first | exact Pick.nil _ | exact Pick.tail _ | exact Out.here _ | apply Out.there | apply Pick.cons | apply Pick.drop)))⟩
        case measure => simp [intOf]; omega
      · obtain rfl : k = 8 := by omega
        have hxl : Hid (8 = xs.length) := by have := rdMany_length 8 e r; rw [Hm2.out] at this; exact this.symm
        have HX2 : Hid ((if rdEnd e2 r2 ≠ 0 ∨ v ≠ (xs.length : Int) ∨ okServers xs = false then ([], 21) else (xs, 0)) = X) := by have := HX.out; rw [Hm2.out] at this; exact this
        obtain ⟨d, hd⟩ : ∃ d, d = rdEnd e2 r2 := ⟨_, rfl⟩
        have hE : ∀ {w : World} {L : List HP}, Sat w0 w (RR bx p e2 r2 :: L) → Calls Try.prog 79 #[.pointer (some ⟨p, 0, none⟩)] w (fun r w' => r = .returned (.int .i64 d) ∧ Sat w0 w' (RR bx p e2 r2 :: L)) := fun hs => by rw [hd]; exact refEnd_spec hs
        by_cases hd0 : d ≠ 0
        · have HX3 : Hid (X = ([], 21)) := by unfold Hid; rw [← HX2.out, if_pos (.inl (by rw [← hd]; exact hd0))]
          have h0 : (d != 0) = true := by simp [hd0]
          clear hd hd0
          go_wp2_with (first | (go_at_call 79; refine (hE (hs4.pick (T := RR bx p e2 r2 :: bx :: own 3 1 Al cl 8 (I8 xs) :: L) (by (repeat (first | exact Pick.nil _ | exact Pick.tail _ | exact Out.here _ | apply Out.there | apply Pick.cons | apply Pick.drop))))).mono ?_; rintro e' w5 ⟨rfl, hs5⟩) | (first | ((with_reducible apply wl_unguard); rfl) | ((with_reducible apply wl_buildSlice); assumption; rfl; (go_simp; rfl); (simp [Value.cells]); omega; intro b w1 hs1) | ((with_reducible apply wl_append); go_must (assumption; rfl; rfl; (repeat (first | exact Out.here _ | apply Out.there)); (repeat (first | assumption | exact Rd.own | exact Rd.nil | apply Rd.cons)); (first | exact B8_one _ | exact I8_one _ | (simp [Value.oneCell'])); (first | omega | (simp only [maxLen]; omega)); omega; intro A1 c1 w1 hs1 hc1; (try ((refine hs1.own_elim ?_ ?_); omega; rintro g1 rfl)); try simp only [Nat.zero_add, List.nil_append] at hs1 hc1)) | ((with_reducible apply wl_store_own); assumption; rfl; (go_simp; rfl); (repeat (first | exact Out.here _ | apply Out.there)); rfl; rfl; omega; intro w1 hs1) | ((with_reducible apply wl_store1); assumption; rfl; (go_simp; rfl); (repeat (first | exact Out.here _ | apply Out.there)); rfl; rfl; simp; intro w1 hs1; (try simp only [List.setIfInBounds_toArray] at hs1); (try simp only [List.set_cons_succ] at hs1); (try simp only [List.set_cons_zero] at hs1)) | ((with_reducible apply wl_load); assumption; rfl; (repeat (first | assumption | exact Cl.blk rfl | apply Cl.cons))) | ((with_reducible apply wl_b2s); assumption; rfl; (repeat (first | assumption | exact Rd.own | exact Rd.nil | apply Rd.cons)); first | rfl | (simp [B8_app]))) | fail)
          go_ret2
          exact ⟨none, 0, 0, by unfold Hid; rw [HX3.out]; rfl, by rw [HX3.out]; rfl, by rw [HX3.out]; exact Sat.own_nil (hs5.pick (by (repeat (first | exact Pick.nil _ | exact Pick.tail _ | exact Out.here _ | apply Out.there | apply Pick.cons | apply Pick.drop)))) _ _⟩
        · obtain rfl : d = 0 := by omega
          clear hd0
          have HX3 : Hid (X = ([], 21)) := by unfold Hid; rw [← HX2.out, if_pos (.inr (.inl (by have := hxl.out; omega)))]
          have h8 : ((v != 8) : Bool) = true := by simp; omega
          clear hd
          go_wp2_with (first | (go_at_call 79; refine (hE (hs4.pick (T := RR bx p e2 r2 :: bx :: own 3 1 Al cl 8 (I8 xs) :: L) (by (repeat (first | exact Pick.nil _ | exact Pick.tail _ | exact Out.here _ | apply Out.there | apply Pick.cons | apply Pick.drop))))).mono ?_; rintro e' w5 ⟨rfl, hs5⟩) | (first | ((with_reducible apply wl_unguard); rfl) | ((with_reducible apply wl_buildSlice); assumption; rfl; (go_simp; rfl); (simp [Value.cells]); omega; intro b w1 hs1) | ((with_reducible apply wl_append); go_must (assumption; rfl; rfl; (repeat (first | exact Out.here _ | apply Out.there)); (repeat (first | assumption | exact Rd.own | exact Rd.nil | apply Rd.cons)); (first | exact B8_one _ | exact I8_one _ | (simp [Value.oneCell'])); (first | omega | (simp only [maxLen]; omega)); omega; intro A1 c1 w1 hs1 hc1; (try ((refine hs1.own_elim ?_ ?_); omega; rintro g1 rfl)); try simp only [Nat.zero_add, List.nil_append] at hs1 hc1)) | ((with_reducible apply wl_store_own); assumption; rfl; (go_simp; rfl); (repeat (first | exact Out.here _ | apply Out.there)); rfl; rfl; omega; intro w1 hs1) | ((with_reducible apply wl_store1); assumption; rfl; (go_simp; rfl); (repeat (first | exact Out.here _ | apply Out.there)); rfl; rfl; simp; intro w1 hs1; (try simp only [List.setIfInBounds_toArray] at hs1); (try simp only [List.set_cons_succ] at hs1); (try simp only [List.set_cons_zero] at hs1)) | ((with_reducible apply wl_load); assumption; rfl; (repeat (first | assumption | exact Cl.blk rfl | apply Cl.cons))) | ((with_reducible apply wl_b2s); assumption; rfl; (repeat (first | assumption | exact Rd.own | exact Rd.nil | apply Rd.cons)); first | rfl | (simp [B8_app]))) | fail)
          go_ret2
          exact ⟨none, 0, 0, by unfold Hid; rw [HX3.out]; rfl, by rw [HX3.out]; rfl, by rw [HX3.out]; exact Sat.own_nil (hs5.pick (by (repeat (first | exact Pick.nil _ | exact Pick.tail _ | exact Out.here _ | apply Out.there | apply Pick.cons | apply Pick.drop)))) _ _⟩

theorem refGetServers_spec {w0 w : World} {L : List HP} {A : Option Addr} {c : Nat} (b : List UInt8) (hl : b.length ≤ 4294967296) (hs : Sat w0 w L) (hR : Rd w0 L A b.length 1 (B8 b)) :
    Calls Try.prog 61 #[.slice A b.length c] w (RetI w0 L (getServers b)) := by
  rw [← getServers_eq]
  exact refGetServers_spec' b hl hs hR
end Go.Proofs.Ytcpcdhlfdabbnaa
