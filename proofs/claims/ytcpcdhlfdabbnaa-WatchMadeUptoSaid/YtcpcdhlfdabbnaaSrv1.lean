/-
  Lists of servers: the plain law.
-/
import Derived.Test.YtcpcdhlfdabbnaaBack1
namespace Go.Proofs.Ytcpcdhlfdabbnaa
open Go Go.RowKit Sl Go.Shelf

theorem le_val (t : List UInt8) : (∀ k, k + 1 = t.length → t[k]? ≠ some 0) → le (val t) = t := by
  induction t with
  | nil => intro _; exact le_zero
  | cons c t ih =>
    intro h
    have hc := c.toNat_lt
    have h2 : ∀ k, k + 1 = t.length → t[k]? ≠ some 0 := fun k hk => by
      have := h (k + 1) (by simp; omega)
      simpa using this
    have hi := ih h2
    have hv : val (c :: t) = c.toNat + 256 * val t := rfl
    have hne : val (c :: t) ≠ 0 := by
      intro h0
      have h1 : c.toNat = 0 := by omega
      have h3 : val t = 0 := by omega
      rw [h3, le_zero] at hi
      subst hi
      have := h 0 rfl
      apply this
      have : c = 0 := UInt8.toNat_inj.1 (by simpa using h1)
      simp [this]
    rw [le_pos _ hne, hv, show (c.toNat + 256 * val t) / 256 = val t from by omega, hi]
    congr 1
    apply UInt8.toNat_inj.1
    simp

/-- Where a number was read without a fault, it stood there as Number puts it. -/
theorem rdNumber_inv {e : Int} {l r : List UInt8} {v : Int} (h : rdNumber e l = (v, 0, r)) : e = 0 ∧ 0 ≤ v ∧ v < 281474976710656 ∧ l = num v.toNat ++ r := by
  obtain ⟨h0, _, _, h48⟩ := rdNumber_ok h
  unfold rdNumber at h
  split at h
  · rename_i he
    simp only [Prod.mk.injEq] at h
    exact absurd h.2.1 he
  · rename_i he
    refine ⟨by simpa using he, h0, h48, ?_⟩
    cases l with
    | nil => simp at h
    | cons c r' =>
      simp only at h
      split at h
      · simp at h
      · split at h
        · simp at h
        · split at h
          · simp at h
          · rename_i h6 h7 h8
            simp only [Prod.mk.injEq, true_and] at h
            obtain ⟨rfl, rfl⟩ := h
            have hlen : (r'.take c.toNat).length = c.toNat := by simp; omega
            have hle : le (val (r'.take c.toNat)) = r'.take c.toNat := le_val _ (fun k hk => by
              rw [hlen] at hk
              rw [List.getElem?_take, if_pos (by omega)]
              intro h9
              apply h8
              refine ⟨by omega, ?_⟩
              rw [← hk, Nat.add_sub_cancel, h9])
            rw [Int.toNat_natCast]
            unfold num
            rw [hle, hlen]
            have : UInt8.ofNat c.toNat = c := by simp
            rw [this]
            simp

/-- k numbers in a row. -/
def rdMany : Nat → Int → List UInt8 → List Int × Int × List UInt8
  | 0, e, l => ([], e, l)
  | k + 1, e, l => ((rdNumber e l).1 :: (rdMany k (rdNumber e l).2.1 (rdNumber e l).2.2).1, (rdMany k (rdNumber e l).2.1 (rdNumber e l).2.2).2)

theorem rdMany_length (k : Nat) : ∀ e l, (rdMany k e l).1.length = k := by
  induction k with
  | zero => intro e l; rfl
  | succ k ih => intro e l; simp [rdMany, ih]

theorem rdMany_left (k : Nat) : ∀ e l, (rdMany k e l).2.2.length ≤ l.length := by
  induction k with
  | zero => intro e l; exact Nat.le_refl _
  | succ k ih =>
    intro e l
    have h1 := ih (rdNumber e l).2.1 (rdNumber e l).2.2
    obtain ⟨⟨v, e2, l2⟩, hx⟩ : ∃ x, rdNumber e l = x := ⟨_, rfl⟩
    obtain ⟨_, _, h2, _⟩ := rdNumber_ok hx
    simp only [rdMany]
    rw [hx] at h1 ⊢
    simp only at h1 ⊢
    omega

theorem rdMany_inv (k : Nat) : ∀ {e : Int} {l r : List UInt8} {xs : List Int}, rdMany k e l = (xs, 0, r) → e = 0 ∧ l = (xs.map fun n => num n.toNat).flatten ++ r := by
  induction k with
  | zero => intro e l r xs h; simp only [rdMany, Prod.mk.injEq] at h; obtain ⟨rfl, rfl, rfl⟩ := h; simp
  | succ k ih =>
    intro e l r xs h
    obtain ⟨⟨v, e2, l2⟩, hx⟩ : ∃ x, rdNumber e l = x := ⟨_, rfl⟩
    simp only [rdMany] at h
    rw [hx] at h
    simp only [Prod.mk.injEq] at h
    obtain ⟨rfl, h2⟩ := h
    obtain ⟨rfl, hl⟩ := ih (xs := (rdMany k e2 l2).1) (e := e2) (l := l2) (r := r) (by rw [← h2])
    obtain ⟨rfl, _, _, h3⟩ := rdNumber_inv hx
    refine ⟨rfl, ?_⟩
    rw [h3]
    conv => lhs; rw [hl]
    simp

theorem rdMany_nums (xs : List Int) (h : ∀ x ∈ xs, 0 ≤ x ∧ x < 281474976710656) (r : List UInt8) : rdMany xs.length 0 ((xs.map fun n => num n.toNat).flatten ++ r) = (xs, 0, r) := by
  induction xs with
  | nil => rfl
  | cons x xs ih =>
    have hx := h x (.head _)
    have ih := ih (fun y hy => h y (.tail _ hy))
    simp only [List.length_cons, rdMany, List.map_cons, List.flatten_cons, List.append_assoc]
    rw [rdNumber_num _ (by omega), ih, Int.toNat_of_nonneg hx.1]

theorem rise_bounds {last : Int} (hl : -1 ≤ last) : ∀ {xs : List Int}, rise last xs = true → ∀ x ∈ xs, 0 ≤ x ∧ x < 16 := by
  intro xs
  induction xs generalizing last with
  | nil => intro _ x hx; cases hx
  | cons y ys ih =>
    intro h x hx
    simp only [rise, Bool.and_eq_true, decide_eq_true_eq] at h
    rcases List.mem_cons.1 hx with rfl | hx
    · omega
    · exact ih (by omega) h.2 x hx

/-- What GetServers answers. -/
def getServers (b : List UInt8) : List Int × Int :=
  let x := rdNumber 0 b
  let l := (rdMany (min x.1.toNat 7) x.2.1 x.2.2).1
  if okServers l = true ∧ srvBytes l = b then (l, 0) else ([], 21)

/-- What the document answers. -/
def refGetServers (b : List UInt8) : List Int × Int :=
  let x := rdNumber 0 b
  let y := rdMany (min x.1.toNat 8) x.2.1 x.2.2
  if rdEnd y.2.1 y.2.2 ≠ 0 ∨ x.1 ≠ y.1.length ∨ okServers y.1 = false then ([], 21) else (y.1, 0)

theorem okServers_iff (l : List Int) : okServers l = true ↔ (1 ≤ l.length ∧ l.length ≤ 7) ∧ rise (-1) l = true := by simp [okServers]

theorem getServers_eq (b : List UInt8) : refGetServers b = getServers b := by
  unfold refGetServers getServers
  obtain ⟨⟨v, e, l⟩, hx⟩ : ∃ x, rdNumber 0 b = x := ⟨_, rfl⟩
  rw [hx]
  simp only
  obtain ⟨h0, he0, _, _⟩ := rdNumber_ok hx
  by_cases hw : okServers (rdMany (min v.toNat 7) e l).1 = true ∧ srvBytes (rdMany (min v.toNat 7) e l).1 = b
  · rw [if_pos hw]
    obtain ⟨h1, h2⟩ := hw
    generalize hxs : (rdMany (min v.toNat 7) e l).1 = xs at h1 h2
    have hok := (okServers_iff xs).1 h1
    have hb := rise_bounds (by omega) hok.2
    have hn : rdNumber 0 b = ((xs.length : Int), 0, (xs.map fun n => num n.toNat).flatten) := by
      rw [← h2, srvBytes]
      exact rdNumber_num _ (by omega) _
    rw [hx] at hn
    simp only [Prod.mk.injEq] at hn
    obtain ⟨rfl, rfl, rfl⟩ := hn
    have hm := rdMany_nums xs (fun x hx => by have := hb x hx; omega) []
    rw [List.append_nil] at hm
    rw [Int.toNat_natCast, Nat.min_eq_left (by omega), hm, if_neg]
    simp [rdEnd, h1]
  · rw [if_neg hw]
    split
    · rfl
    · rename_i hr
      exfalso
      apply hw
      simp only [ne_eq, not_or, Decidable.not_not] at hr
      obtain ⟨r1, r2, r3⟩ := hr
      have r3 : okServers (rdMany (min v.toNat 8) e l).1 = true := by simpa using r3
      have hl := (okServers_iff _).1 r3
      rw [rdMany_length] at r2 hl
      have hv7 : v.toNat ≤ 7 := by omega
      rw [Nat.min_eq_left (by omega)] at r1 r3 r2
      rw [Nat.min_eq_left hv7]
      refine ⟨r3, ?_⟩
      obtain ⟨⟨xs, e2, l2⟩, hy⟩ : ∃ y, rdMany v.toNat e l = y := ⟨_, rfl⟩
      have hlen := rdMany_length v.toNat e l
      rw [hy] at r1 r3 hlen ⊢
      simp only at r1 r3 hlen ⊢
      unfold rdEnd at r1
      have he2 : e2 = 0 := by
        by_cases h : e2 = 0
        · exact h
        · rw [if_pos h] at r1; exact absurd r1 h
      subst he2
      have hl2 : l2 = [] := by
        cases l2 with
        | nil => rfl
        | cons => simp at r1
      subst hl2
      obtain ⟨rfl, hl3⟩ := rdMany_inv _ hy
      obtain ⟨_, _, _, hb⟩ := rdNumber_inv hx
      rw [hb, srvBytes, hlen]
      conv => rhs; rw [hl3]
      simp
end Go.Proofs.Ytcpcdhlfdabbnaa
