/-
  Lists of servers that differ by one: the program's way and the document's answer alike. No walk here.
-/
import Derived.Test.YtcpcdhlfdabbnaaSrv4
namespace Go.Proofs.Ytcpcdhlfdabbnaa
open Go Go.RowKit Sl Go.Shelf

abbrev Inc (l : List Int) : Prop := l.Pairwise (· < ·)

theorem rise_inc : ∀ {l : List Int} {last : Int}, rise last l = true → Inc l ∧ ∀ x ∈ l, last < x ∧ x < 16
  | [], _, _ => ⟨.nil, fun x h => by cases h⟩
  | y :: l, last, h => by
    simp only [rise, Bool.and_eq_true, decide_eq_true_eq] at h
    obtain ⟨h1, h2⟩ := rise_inc h.2
    refine ⟨List.pairwise_cons.2 ⟨fun x hx => (h2 x hx).1, h1⟩, fun x hx => ?_⟩
    rcases List.mem_cons.1 hx with rfl | hx
    · exact h.1
    · have := h2 x hx; omega

theorem inc_ext : ∀ {a b : List Int}, Inc a → Inc b → (∀ x, x ∈ a ↔ x ∈ b) → a = b
  | [], [], _, _, _ => rfl
  | [], y :: b, _, _, h => by have := (h y).2 (by simp); cases this
  | x :: a, [], _, _, h => by have := (h x).1 (by simp); cases this
  | x :: a, y :: b, ha, hb, h => by
    obtain ⟨ha1, ha2⟩ := List.pairwise_cons.1 ha
    obtain ⟨hb1, hb2⟩ := List.pairwise_cons.1 hb
    have e : x = y := by
      have h1 := (h x).1 (by simp)
      have h2 := (h y).2 (by simp)
      rcases List.mem_cons.1 h1 with h1 | h1
      · exact h1
      · rcases List.mem_cons.1 h2 with h2 | h2
        · exact h2.symm
        · have := hb1 x h1; have := ha1 y h2; omega
    subst e
    congr 1
    refine inc_ext ha2 hb2 fun z => ⟨fun hz => ?_, fun hz => ?_⟩
    · rcases List.mem_cons.1 ((h z).1 (by simp [hz])) with h1 | h1
      · have := ha1 z hz; omega
      · exact h1
    · rcases List.mem_cons.1 ((h z).2 (by simp [hz])) with h1 | h1
      · have := hb1 z hz; omega
      · exact h1

theorem inc_filter {l : List Int} (h : Inc l) (p : Int → Bool) : Inc (l.filter p) := h.sublist List.filter_sublist

/-- How many of a are in b. -/
def cnt (a b : List Int) : Nat := (a.filter fun x => decide (x ∈ b)).length

theorem cnt_all {a b : List Int} : cnt a b = a.length ↔ ∀ x ∈ a, x ∈ b := by
  unfold cnt
  rw [← List.countP_eq_length_filter, List.countP_eq_length]
  simp

theorem len_more {a b : List Int} (ha : Inc a) (hb : Inc b) (h : ∀ x ∈ a, x ∈ b) : b.length = a.length + (b.filter fun x => decide (x ∉ a)).length := by
  have e : b.filter (fun x => decide (x ∈ a)) = a := inc_ext (inc_filter hb _) ha fun x => by
    rw [List.mem_filter]; exact ⟨fun h1 => of_decide_eq_true h1.2, fun h1 => ⟨h x h1, by simpa using h1⟩⟩
  have h2 := List.length_eq_countP_add_countP (fun x => decide (x ∈ a)) (l := b)
  rw [List.countP_eq_length_filter, e, List.countP_eq_length_filter] at h2
  rw [h2]
  congr 3
  funext x
  simp

def ids16 : List Int := (List.range 16).map Int.ofNat
theorem ids16_inc : Inc ids16 := by decide
theorem mem_ids16 {x : Int} : x ∈ ids16 ↔ 0 ≤ x ∧ x < 16 := by
  unfold ids16
  rw [List.mem_map]
  constructor
  · rintro ⟨k, hk, rfl⟩; have := List.mem_range.1 hk; simp only [Int.ofNat_eq_natCast]; omega
  · intro h; exact ⟨x.toNat, List.mem_range.2 (by omega), by simp only [Int.ofNat_eq_natCast]; omega⟩

def hasR (l : List Int) (id : Int) : Bool := decide (id ∈ l)
def outR (l : List Int) (add : Bool) (id : Int) : List Int := ids16.filter fun i => (decide (i = id) && add) || (decide (i ≠ id) && hasR l i)
def changeR (l : List Int) (add : Bool) (id : Int) : List Int × Int :=
  if okServers l = false ∨ id < 0 ∨ 16 ≤ id then ([], 1)
  else if add = hasR l id ∨ (add = true ∧ l.length = 7) ∨ (add = false ∧ l.length = 1) then ([], 33)
  else (outR l add id, 0)
def besideR (a b : List Int) : Bool := okServers a && okServers b && (decide (a = b) || ids16.any fun id => decide ((changeR a (!hasR a id) id) = (b, 0)))
def besideP (a b : List Int) : Bool := okServers a && okServers b && (if b.length < a.length then decide (cnt b a = b.length ∧ a.length ≤ b.length + 1) else decide (cnt a b = a.length ∧ b.length ≤ a.length + 1))

theorem ok_inc {l : List Int} (h : okServers l = true) : Inc l ∧ (∀ x ∈ l, 0 ≤ x ∧ x < 16) ∧ 1 ≤ l.length ∧ l.length ≤ 7 := by
  simp only [okServers, Bool.and_eq_true, decide_eq_true_eq] at h
  obtain ⟨h1, h2⟩ := rise_inc h.2
  exact ⟨h1, fun x hx => by have := h2 x hx; omega, h.1⟩

theorem mem_out {l : List Int} (hb : ∀ x ∈ l, 0 ≤ x ∧ x < 16) {add : Bool} {id : Int} (hi : 0 ≤ id ∧ id < 16) (x : Int) : x ∈ outR l add id ↔ (x = id ∧ add = true) ∨ (x ≠ id ∧ x ∈ l) := by
  unfold outR hasR
  rw [List.mem_filter, mem_ids16]
  simp only [Bool.or_eq_true, Bool.and_eq_true, decide_eq_true_eq]
  constructor
  · rintro ⟨_, h⟩; exact h
  · rintro (⟨rfl, h⟩ | ⟨h, h2⟩)
    · exact ⟨hi, .inl ⟨rfl, h⟩⟩
    · exact ⟨hb x h2, .inr ⟨h, h2⟩⟩

theorem one_of {l : List Int} (h : l.length = 1) : ∃ x, l = [x] := by
  match l, h with
  | [x], _ => exact ⟨x, rfl⟩

theorem beside_same (a b : List Int) : besideP a b = besideR a b := by
  unfold besideP besideR
  cases hoa : okServers a with
  | false => rfl
  | true =>
    cases hob : okServers b with
    | false => rfl
    | true =>
      simp only [Bool.true_and]
      obtain ⟨ia, ba, la1, la7⟩ := ok_inc hoa
      obtain ⟨ib, bb, lb1, lb7⟩ := ok_inc hob
      rw [Bool.eq_iff_iff]
      have key : ∀ id, 0 ≤ id ∧ id < 16 → (changeR a (!hasR a id) id = (b, 0) ↔ ¬ ((!hasR a id) = true ∧ a.length = 7) ∧ ¬ ((!hasR a id) = false ∧ a.length = 1) ∧ outR a (!hasR a id) id = b) := fun id hid => by
        unfold changeR
        rw [if_neg (by rw [hoa]; simp; omega)]
        by_cases h : (!hasR a id) = hasR a id ∨ ((!hasR a id) = true ∧ a.length = 7) ∨ ((!hasR a id) = false ∧ a.length = 1)
        · rw [if_pos h]
          constructor
          · intro e; simp at e
          · rintro ⟨h1, h2, _⟩
            rcases h with h | h | h
            · cases hq : hasR a id <;> rw [hq] at h <;> cases h
            · exact absurd h h1
            · exact absurd h h2
        · rw [if_neg h]
          simp only [Prod.mk.injEq, and_true]
          exact ⟨fun e => ⟨fun h1 => h (.inr (.inl h1)), fun h1 => h (.inr (.inr h1)), e⟩, fun e => e.2.2⟩
      constructor
      · intro h
        simp only [Bool.or_eq_true, decide_eq_true_eq, List.any_eq_true]
        split at h
        · rename_i hlt
          simp only [decide_eq_true_eq] at h
          have hsub := cnt_all.1 h.1
          have hl := len_more ib ia hsub
          obtain ⟨id, hid⟩ := one_of (l := a.filter fun x => decide (x ∉ b)) (by omega)
          have hm : ∀ x, (x ∈ a ∧ x ∉ b) ↔ x = id := fun x => by
            have : x ∈ a.filter (fun x => decide (x ∉ b)) ↔ x = id := by rw [hid]; simp
            rw [← this, List.mem_filter]; simp
          have hid2 := (hm id).2 rfl
          have hh : hasR a id = true := by simp [hasR, hid2.1]
          refine .inr ⟨id, mem_ids16.2 (ba id hid2.1), ?_⟩
          rw [key id (ba id hid2.1), hh]
          refine ⟨by simp, by simp; omega, inc_ext (inc_filter ids16_inc _) ib fun x => ?_⟩
          rw [mem_out ba (ba id hid2.1)]
          simp only [Bool.not_true, Bool.false_eq_true, and_false, false_or]
          constructor
          · rintro ⟨h1, h2⟩
            by_cases hxb : x ∈ b
            · exact hxb
            · exact absurd ((hm x).1 ⟨h2, hxb⟩) h1
          · intro hx
            exact ⟨fun e => hid2.2 (e ▸ hx), hsub x hx⟩
        · rename_i hlt
          simp only [decide_eq_true_eq] at h
          have hsub := cnt_all.1 h.1
          have hl := len_more ia ib hsub
          by_cases h0 : (b.filter fun x => decide (x ∉ a)).length = 0
          · left
            have h1 := List.eq_nil_of_length_eq_zero h0
            refine inc_ext ia ib fun x => ⟨hsub x, fun hx => ?_⟩
            by_cases hxa : x ∈ a
            · exact hxa
            · have : x ∈ b.filter (fun x => decide (x ∉ a)) := List.mem_filter.2 ⟨hx, by simpa using hxa⟩
              rw [h1] at this; cases this
          · obtain ⟨id, hid⟩ := one_of (l := b.filter fun x => decide (x ∉ a)) (by omega)
            have hm : ∀ x, (x ∈ b ∧ x ∉ a) ↔ x = id := fun x => by
              have : x ∈ b.filter (fun x => decide (x ∉ a)) ↔ x = id := by rw [hid]; simp
              rw [← this, List.mem_filter]; simp
            have hid2 := (hm id).2 rfl
            have hh : hasR a id = false := by simp [hasR, hid2.2]
            refine .inr ⟨id, mem_ids16.2 (bb id hid2.1), ?_⟩
            rw [key id (bb id hid2.1), hh]
            refine ⟨by simp; omega, by simp, inc_ext (inc_filter ids16_inc _) ib fun x => ?_⟩
            rw [mem_out ba (bb id hid2.1)]
            simp only [Bool.not_false, and_true]
            constructor
            · rintro (rfl | ⟨_, h2⟩)
              · exact hid2.1
              · exact hsub x h2
            · intro hx
              by_cases e : x = id
              · exact .inl e
              · refine .inr ⟨e, ?_⟩
                by_cases hxa : x ∈ a
                · exact hxa
                · exact absurd ((hm x).1 ⟨hx, hxa⟩) e
      · intro h
        simp only [Bool.or_eq_true, decide_eq_true_eq, List.any_eq_true] at h
        rcases h with rfl | ⟨id, hid, h⟩
        · rw [if_neg (by omega)]
          simp only [decide_eq_true_eq]
          exact ⟨cnt_all.2 fun x h => h, by omega⟩
        · have hid' := mem_ids16.1 hid
          rw [key id hid'] at h
          obtain ⟨h1, h2, h3⟩ := h
          have hm : ∀ x, x ∈ b ↔ (x = id ∧ (!hasR a id) = true) ∨ (x ≠ id ∧ x ∈ a) := fun x => by rw [← h3]; exact mem_out ba hid' x
          cases hh : hasR a id with
          | true =>
            have hia : id ∈ a := by simpa [hasR] using hh
            rw [hh] at hm
            simp only [Bool.not_true, Bool.false_eq_true, and_false, false_or] at hm
            have hsub : ∀ x ∈ b, x ∈ a := fun x hx => ((hm x).1 hx).2
            have hl := len_more ib ia hsub
            have e : a.filter (fun x => decide (x ∉ b)) = [id] := inc_ext (inc_filter ia _) (List.pairwise_singleton _ _) fun x => by
              rw [List.mem_filter, List.mem_singleton]
              simp only [decide_eq_true_eq]
              constructor
              · rintro ⟨h5, h6⟩
                by_cases e : x = id
                · exact e
                · exact absurd ((hm x).2 ⟨e, h5⟩) h6
              · rintro rfl; exact ⟨hia, fun h7 => ((hm x).1 h7).1 rfl⟩
            rw [e] at hl
            simp only [List.length_cons, List.length_nil] at hl
            rw [if_pos (by omega)]
            simp only [decide_eq_true_eq]
            exact ⟨cnt_all.2 hsub, by omega⟩
          | false =>
            have hia : id ∉ a := by simpa [hasR] using hh
            rw [hh] at hm
            simp only [Bool.not_false, and_true] at hm
            have hsub : ∀ x ∈ a, x ∈ b := fun x hx => (hm x).2 (.inr ⟨fun e => hia (e ▸ hx), hx⟩)
            have hl := len_more ia ib hsub
            have e : b.filter (fun x => decide (x ∉ a)) = [id] := inc_ext (inc_filter ib _) (List.pairwise_singleton _ _) fun x => by
              rw [List.mem_filter, List.mem_singleton]
              simp only [decide_eq_true_eq]
              constructor
              · rintro ⟨h5, h6⟩
                rcases (hm x).1 h5 with h7 | h7
                · exact h7
                · exact absurd h7.2 h6
              · rintro rfl; exact ⟨(hm x).2 (.inl rfl), hia⟩
            rw [e] at hl
            simp only [List.length_cons, List.length_nil] at hl
            rw [if_neg (by omega)]
            simp only [decide_eq_true_eq]
            exact ⟨cnt_all.2 hsub, by omega⟩
#print axioms beside_same
end Go.Proofs.Ytcpcdhlfdabbnaa
