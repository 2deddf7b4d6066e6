/-
  WireBack: the plain law.
-/
import Derived.Test.YtcpcdhlfdabbnaaWire9
namespace Go.Proofs.Ytcpcdhlfdabbnaa
open Go Go.RowKit Sl Go.Shelf

theorem val_le (n : Nat) : val (le n) = n := by
  induction n using Nat.strongRecOn with
  | _ n ih =>
    by_cases h : n = 0
    · subst h; rw [le_zero]; rfl
    · rw [le_pos n h]
      simp only [val]
      rw [ih (n / 256) (by omega)]
      have : (UInt8.ofNat n).toNat = n % 256 := by simp
      omega

theorem le_last (n : Nat) : ∀ (_ : n ≠ 0), (le n)[(le n).length - 1]? ≠ some 0 := by
  induction n using Nat.strongRecOn with
  | _ n ih =>
    intro h
    rw [le_pos n h]
    by_cases h2 : n / 256 = 0
    · rw [h2, le_zero]
      simp
      intro h3
      have : (UInt8.ofNat n).toNat = 0 := by rw [h3]; rfl
      simp at this
      omega
    · have := ih (n / 256) (by omega) h2
      have hl : (le (n / 256)).length ≠ 0 := by
        intro h0
        rw [le_pos _ h2] at h0
        simp at h0
      obtain ⟨k, hk⟩ : ∃ k, (le (n / 256)).length = k + 1 := ⟨(le (n / 256)).length - 1, by omega⟩
      rw [hk] at this
      simp only [List.length_cons, hk, Nat.add_sub_cancel, List.getElem?_cons_succ] at this ⊢
      exact this

theorem le_len0 (n : Nat) (h : n ≠ 0) : 0 < (le n).length := by rw [le_pos n h]; simp

/-- A number that was put is read back, whatever follows. -/
theorem rdNumber_num (n : Nat) (hn : n < 281474976710656) (rest : List UInt8) : rdNumber 0 (num n ++ rest) = ((n : Int), 0, rest) := by
  have hl : (le n).length ≤ 6 := le_len n 6 hn
  have hb : (UInt8.ofNat (le n).length).toNat = (le n).length := by
    simp; omega
  have e : num n ++ rest = UInt8.ofNat (le n).length :: (le n ++ rest) := rfl
  rw [e]
  unfold rdNumber
  simp only [ne_eq, not_true, if_false, hb]
  rw [if_neg (by omega), if_neg (by simp), if_neg, List.take_left, List.drop_left, val_le]
  rintro ⟨h1, h2⟩
  have h0 : n ≠ 0 := by rintro rfl; rw [le_zero] at h1; simp at h1
  rw [List.getElem?_append_left (by omega)] at h2
  exact le_last n h0 h2

theorem rdBytes_text (t : List UInt8) (ht : t.length ≤ 1048576) (rest : List UInt8) : rdBytes 0 (num t.length ++ t ++ rest) = (t, 0, rest) := by
  unfold rdBytes
  rw [List.append_assoc, rdNumber_num _ (by omega)]
  simp only [ne_eq, not_true, if_false]
  rw [if_neg (by omega), if_neg (by simp; omega), Int.toNat_natCast, List.take_left, List.drop_left]

/-- What is put behind: a number, or bytes (then the number is -1). -/
abbrev Item := Int × List UInt8

def encItem (x : Item) : List UInt8 := if x.1 < 0 then num x.2.length ++ x.2 else num x.1.toNat
def numItem (n : Int) : List Item := if n < 0 ∨ 281474976710656 ≤ n then [] else [(n, [])]
def bytesItem (t : List UInt8) : List Item := if 1048576 < t.length then [] else [(-1, t)]
def okItem (x : Item) : Prop := (x.1 < 0 → x.2.length ≤ 1048576 ∧ x.1 = -1) ∧ (0 ≤ x.1 → x.1 < 281474976710656 ∧ x.2 = [])

/-- The items of the first k rounds. -/
def items (l : List Int) (m : List (List UInt8)) : Nat → List Item
  | 0 => []
  | k + 1 => items l m k ++ (l[k]?.map numItem).getD [] ++ (m[k]?.map bytesItem).getD []

def enc (xs : List Item) : List UInt8 := (xs.map encItem).flatten
theorem enc_app (xs ys : List Item) : enc (xs ++ ys) = enc xs ++ enc ys := by simp [enc]

theorem items_ok (l : List Int) (m : List (List UInt8)) (k : Nat) : ∀ x ∈ items l m k, okItem x := by
  induction k with
  | zero => simp [items]
  | succ k ih =>
    intro x hx
    simp only [items, List.mem_append] at hx
    rcases hx with (hx | hx) | hx
    · exact ih x hx
    · cases hq : l[k]? with
      | none => rw [hq] at hx; simp at hx
      | some n =>
        rw [hq] at hx
        simp only [Option.map_some, Option.getD_some, numItem] at hx
        split at hx
        · simp at hx
        · simp at hx; subst hx; constructor <;> simp <;> omega
    · cases hq : m[k]? with
      | none => rw [hq] at hx; simp at hx
      | some t =>
        rw [hq] at hx
        simp only [Option.map_some, Option.getD_some, bytesItem] at hx
        split at hx
        · simp at hx
        · simp at hx; subst hx; constructor <;> simp; omega

theorem enc_drop (xs : List Item) (k : Nat) (x : Item) (h : xs[k]? = some x) : enc (xs.drop k) = encItem x ++ enc (xs.drop (k + 1)) := by
  rw [drop_at xs k x h]; simp [enc]

theorem items_len (l : List Int) (m : List (List UInt8)) (k : Nat) : (items l m k).length ≤ 2 * k := by
  induction k with
  | zero => simp [items]
  | succ k ih =>
    have h1 : ((l[k]?.map numItem).getD []).length ≤ 1 := by
      cases l[k]? with
      | none => simp
      | some n => simp only [Option.map_some, Option.getD_some, numItem]; split <;> simp
    have h2 : ((m[k]?.map bytesItem).getD []).length ≤ 1 := by
      cases m[k]? with
      | none => simp
      | some n => simp only [Option.map_some, Option.getD_some, bytesItem]; split <;> simp
    simp only [items, List.length_append]; omega

theorem num_len6 (n : Nat) (hn : n < 281474976710656) : (num n).length ≤ 7 := by
  have := le_len n 6 hn
  simp [num]; omega

theorem enc_len (l : List Int) (m : List (List UInt8)) (k : Nat) : (enc (items l m k)).length ≤ 14 * k + tot m k := by
  induction k with
  | zero => simp [items, enc]
  | succ k ih =>
    have h1 : (enc ((l[k]?.map numItem).getD [])).length ≤ 7 := by
      cases l[k]? with
      | none => simp [enc]
      | some n =>
        simp only [Option.map_some, Option.getD_some, numItem]
        split
        · simp [enc]
        · have := num_len6 n.toNat (by omega)
          simp only [enc, List.map_cons, List.map_nil, List.flatten_cons, List.flatten_nil, List.append_nil, encItem]
          rw [if_neg (show ¬ n < 0 by omega)]
          exact this
    have h2 : (enc ((m[k]?.map bytesItem).getD [])).length + tot m k ≤ 7 + tot m (k + 1) := by
      cases hq : m[k]? with
      | none => have := List.getElem?_eq_none_iff.1 hq; rw [tot_all m k this, tot_all m (k + 1) (by omega)]; simp [enc]
      | some t =>
        rw [tot_succ m k t hq]
        simp only [Option.map_some, Option.getD_some, bytesItem]
        split
        · simp [enc]; omega
        · have := num_len6 t.length (by omega)
          simp only [enc, List.map_cons, List.map_nil, List.flatten_cons, List.flatten_nil, List.append_nil, encItem]
          rw [if_pos (show (-1 : Int) < 0 by omega), List.length_append]
          omega
    simp only [items, enc_app, List.length_append]; omega
end Go.Proofs.Ytcpcdhlfdabbnaa
